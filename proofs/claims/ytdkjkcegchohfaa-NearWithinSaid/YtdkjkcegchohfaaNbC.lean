/-
  cmp.Or of two; the order in which near words are told.
-/
import Derived.Test.YtdkjkcegchohfaaNbL
namespace Go.Proofs.Ytdkjkcegchohfaa
open Go.RowKit Go.Shelf Go.Lib Go.Sort
set_option linter.unusedVariables false
set_option linter.unusedSimpArgs false
attribute [local go_sem] Oper.semAt_some

def orF (x y : Int) : Int := if x ≠ 0 then x else y
set_option maxHeartbeats 1000000 in
theorem or_ok {g c : Nat} {x y : Int} {w : World} (h0 : w.cell? ⟨g, 0, none⟩ = some (.int .i64 x)) (h1 : w.cell? ⟨g, 1, none⟩ = some (.int .i64 y)) :
    Calls Try.prog 41 #[.slice (some ⟨g, 0, none⟩) 2 c] w fun e w' => e = .returned (.int .i64 (orF x y)) ∧ w' = w := by
  go_enter Try.func41, Try.ntmps41
  go_wp2_with fail
  go_loopw [8] (fun i wr => ∃ k : Nat, k ≤ 2 ∧ i = .int .i64 k ∧ Hid (1 ≤ k → x = 0) ∧ Hid (2 ≤ k → y = 0) ∧ wr = w) (fun i _ => 3 - (intOf i).toNat)
  case atStart => exact ⟨0, by omega, rfl, Lib.hid (fun h => absurd h (by omega)), Lib.hid (fun h => absurd h (by omega)), rfl⟩
  case round =>
    obtain ⟨k, hk, rfl, H1, H2, rfl⟩ := hrel
    rcases (show k = 0 ∨ k = 1 ∨ k = 2 by omega) with rfl | rfl | rfl
    · by_cases hx : x = 0
      · subst hx
        go_wp2_with fail
        go_roundw
        case rel => exact ⟨1, by omega, by go_num, Lib.hid (fun _ => by trivial), Lib.hid (fun h => absurd h (by omega)), by trivial⟩
        case measure => simp [intOf]
      · have hv : Hid (orF x y = x) := Lib.hid (if_pos hx)
        have hb : (x == 0) = false := by simp [hx]
        go_wp2_with fail
        go_ret
        exact ⟨ret_int hv.out.symm, rfl⟩
    · by_cases hy : y = 0
      · subst hy
        go_wp2_with fail
        go_roundw
        case rel => exact ⟨2, by omega, by go_num, Lib.hid (fun _ => H1.out (by omega)), Lib.hid (fun _ => by trivial), by trivial⟩
        case measure => simp [intOf]
      · have hv : Hid (orF x y = y) := Lib.hid (if_neg (fun h => h (H1.out (by omega))))
        have hb : (y == 0) = false := by simp [hy]
        go_wp2_with fail
        go_ret
        exact ⟨ret_int hv.out.symm, rfl⟩
    · have hv : Hid (orF x y = 0) := Lib.hid (by unfold orF; rw [H1.out (by omega), H2.out (by omega)]; rfl)
      go_wp2_with fail
      go_ret
      exact ⟨ret_int hv.out.symm, rfl⟩

/-- Nearer first, then by number. -/
def cmpF (x y : Nat × Nat) : Int := orF (Lib.compareInt x.2 y.2) (Lib.compareInt x.1 y.1)
def encN (x : Nat × Nat) : List Value := [.int .i64 x.1, .int .i64 x.2]
end Go.Proofs.Ytdkjkcegchohfaa
