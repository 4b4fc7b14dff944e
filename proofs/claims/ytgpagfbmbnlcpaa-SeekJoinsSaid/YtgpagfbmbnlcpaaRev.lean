/-
  slices.Reverse at []int, on a row of the call's own: the walk.
-/
import Derived.Test.YtgpagfbmbnlcpaaLib
import Derived.BigRegion
namespace Go.Proofs.Ytgpagfbmbnlcpaa
open Go.RowKit
set_option linter.unusedVariables false
set_option linter.unusedSimpArgs false

/-- Turned round from both ends, i numbers each. -/
def rvL (l : List Int) (i : Nat) : List Int := (List.range l.length).map fun k => if k < i ∨ l.length ≤ k + i then gI l (l.length - 1 - k) else gI l k
theorem rvL_len (l : List Int) (i : Nat) : (rvL l i).length = l.length := by simp [rvL]
theorem rvL_zero (l : List Int) : rvL l 0 = l := by
  apply List.ext_getElem
  · exact rvL_len l 0
  · intro k h1 h2
    simp [rvL, gI, h2]
    omega
theorem rvL_get (l : List Int) {i k : Nat} (hk : k < l.length) : gI (rvL l i) k = if k < i ∨ l.length ≤ k + i then gI l (l.length - 1 - k) else gI l k := by
  unfold rvL
  simp [gI, hk]
theorem rvL_end (l : List Int) {i : Nat} (h : l.length ≤ i + i + 1) : rvL l i = l.reverse := by
  apply List.ext_getElem
  · simp [rvL_len]
  · intro k h1 h2
    have hk : k < l.length := by simpa using h2
    have e := rvL_get l (i := i) hk
    have e2 : gI (rvL l i) k = (rvL l i)[k] := by simp [gI, h1]
    rw [← e2, e, List.getElem_reverse]
    have e3 : gI l (l.length - 1 - k) = l[l.length - 1 - k] := by simp [gI, show l.length - 1 - k < l.length by omega]
    split
    · exact e3
    · have : k = l.length - 1 - k := by omega
      rw [← e3, ← this]
theorem rvL_set (l : List Int) {i : Nat} (h : i + i + 1 < l.length) : ((rvL l i).set i (gI l (l.length - 1 - i))).set (l.length - 1 - i) (gI l i) = rvL l (i + 1) := by
  apply List.ext_getElem
  · simp [rvL_len]
  · intro k h1 h2
    have hk : k < l.length := by rw [rvL_len] at h2; exact h2
    have e := rvL_get l (i := i) hk
    have e' := rvL_get l (i := i + 1) hk
    have e2 : gI (rvL l i) k = (rvL l i)[k]'(by rw [rvL_len]; exact hk) := by simp [gI, rvL_len, hk]
    have e3 : gI (rvL l (i + 1)) k = (rvL l (i + 1))[k]'h2 := by simp [gI, h2]
    rw [← e3, e', List.getElem_set, List.getElem_set, ← e2, e]
    by_cases k1 : l.length - 1 - i = k
    · rw [if_pos k1, if_pos (by omega), show l.length - 1 - k = i by omega]
    · rw [if_neg k1]
      by_cases k2 : i = k
      · subst k2
        rw [if_pos rfl, if_pos (by omega)]
      · rw [if_neg k2]
        by_cases k3 : k < i ∨ l.length ≤ k + i
        · rw [if_pos k3, if_pos (by omega)]
        · rw [if_neg k3, if_neg (by omega)]

theorem gb_trans {a b c : World} {row : Option Nat} (h1 : a.grownBy b row) (h2 : b.grownBy c row) : a.grownBy c row :=
  ⟨h2.os.trans h1.os, h2.tape.trans h1.tape, h2.output.trans h1.output, Nat.le_trans h1.size h2.size, fun k hk hne => (h2.block k (Nat.lt_of_lt_of_le hk h1.size) hne).trans (h1.block k hk hne)⟩
theorem gb_drewN (a : World) (n : Nat) (row : Option Nat) : a.grownBy (a.drewN n) row := ⟨rfl, rfl, rfl, Nat.le_refl _, fun _ _ _ => rfl⟩

set_option maxHeartbeats 4000000 in
theorem reverse_ok {g n c base : Nat} {l : List Int} {w : World} (h : OwnI w base (some ⟨g, 0, none⟩) n c l) (hn : n ≤ 4611686018427387904) :
    Calls Try.prog 12 #[.slice (some ⟨g, 0, none⟩) n c] w fun e w' => e = .returned (.tuple #[]) ∧ OwnI w' base (some ⟨g, 0, none⟩) n c l.reverse ∧ w.grownBy w' (some g) := by
  have hlen := Lib.hid h.ints.len
  go_enter Try.func12, Try.ntmps12
  go_wp2_with fail
  go_loopw [2, 3] (fun i j wr => ∃ k : Nat, k ≤ n ∧ i = .int .i64 k ∧ j = .int .i64 ((n : Int) - 1 - k) ∧ OwnI wr base (some ⟨g, 0, none⟩) n c (rvL l k) ∧ w.grownBy wr (some g)) (fun i _ _ => n - (intOf i).toNat)
  case atStart => exact ⟨0, by omega, rfl, by simp, by rw [rvL_zero]; exact h, World.grownBy.refl w _⟩
  case round =>
    clear h
    obtain ⟨k, hk, rfl, rfl, ho, hgr⟩ := hrel
    by_cases hlt : k + k + 1 < n
    · obtain ⟨j, hj⟩ : ∃ j, n = j + 1 + k := ⟨n - 1 - k, by omega⟩
      have HJ := Lib.hid hj
      have e1 : (n : Int) - 1 - k = (j : Int) := by omega
      rw [e1]
      have hol : (rvL l k).length = n := by rw [rvL_len, hlen.out]
      have c1 : wr.cell? ⟨g, k, none⟩ = some (.int .i64 (gI l k)) := by
        have := World.ownsRow.cellAt ho k (by omega)
        rw [this, List.getElem?_map, List.getElem?_eq_getElem (by omega)]
        have e := rvL_get l (i := k) (k := k) (by rw [hlen.out]; omega)
        rw [if_neg (by rw [hlen.out]; omega)] at e
        simp only [Option.map_some]
        rw [← e]; simp [gI, show k < (rvL l k).length by omega]
      have c2 : wr.cell? ⟨g, j, none⟩ = some (.int .i64 (gI l j)) := by
        have := World.ownsRow.cellAt ho j (by omega)
        rw [this, List.getElem?_map, List.getElem?_eq_getElem (by omega)]
        have e := rvL_get l (i := k) (k := j) (by rw [hlen.out]; omega)
        rw [if_neg (by rw [hlen.out]; omega)] at e
        simp only [Option.map_some]
        rw [← e]; simp [gI, show j < (rvL l k).length by omega]
      have f1 := World.ownsRow.frozenAt ho k
      have f2 := World.ownsRow.frozenAt ho j
      have i1 : (k : Int) < (n : Int) := by omega
      have i2 : (j : Int) < (n : Int) := by omega
      have i3 : (k : Int) < (j : Int) := by omega
      have n1 : ¬ k = j := by omega
      have n2 : ¬ j = k := by omega
      have HS : Hid (((rvL l k).set k (gI l j)).set j (gI l k) = rvL l (k + 1) ∧ ((rvL l k).set j (gI l k)).set k (gI l j) = rvL l (k + 1)) := by
        have := rvL_set l (i := k) (by rw [hlen.out]; omega)
        rw [hlen.out, show n - 1 - k = j by omega] at this
        refine Lib.hid ⟨this, ?_⟩
        rw [List.set_comm _ _ (by omega)]; exact this
      clear e1 hj hol
      go_wp2_with fail
      go_region
      all_goals
        go_wp2_with fail
        go_roundw
        case rel => exact ⟨k + 1, by omega, by go_num, by have := HJ.out; congr 1; omega, by
          have o1 := (World.ownsRow.stored (World.ownsRow.stored ho k (.int .i64 (gI l j))).1 j (.int .i64 (gI l k))).1
          have e := HS.out.1
          rw [← List.map_set, ← List.map_set, e] at o1
          exact o1, gb_trans (gb_trans (gb_trans hgr (World.ownsRow.stored ho k (.int .i64 (gI l j))).2) (World.ownsRow.stored (World.ownsRow.stored ho k (.int .i64 (gI l j))).1 j (.int .i64 (gI l k))).2) ⟨rfl, rfl, rfl, Nat.le_refl _, fun _ _ _ => rfl⟩⟩
        case measure => simp [intOf]; omega
    · have HE := rvL_end l (i := k) (by rw [hlen.out]; omega)
      go_wp2_with fail
      go_end0
      exact ⟨rfl, by rw [← HE]; exact ho, hgr⟩
end Go.Proofs.Ytgpagfbmbnlcpaa
