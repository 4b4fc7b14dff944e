/-
  slices.SortStableFunc at []int, over what is sorted already: nothing turns.
-/
import Derived.Test.YtdkjkcegchohfaaAbS
namespace Go.Proofs.Ytdkjkcegchohfaa
open Go.RowKit Go.Shelf
set_option linter.unusedVariables false
set_option linter.unusedSimpArgs false
attribute [local go_sem] Oper.semAt_some

set_option maxRecDepth 20000 in
set_option maxHeartbeats 2000000 in
theorem stable_ok {A : Option Addr} {n c f g : Nat} {l : List Int} {w : World} (hl : Ints w A n c l) (hc : CmpOn w f g l) (eg : ∀ args W, (callFunc f args).run Try.prog W = .ok (.enter f args) W) (hn : n ≤ 100000) :
    Calls Try.prog 57 #[.slice A n c, .int .i64 n, .func (.func f) #[] #[.pointer (some ⟨g, 0, none⟩)]] w fun e w' => e = .returned (.tuple #[]) ∧ Ext w w' := by
  have HL := Lib.hid hl
  have HC := Lib.hid hc
  have HI := Lib.hid (fun (a b : Nat) (W : World) (hW : Ext w W) (h1 : a ≤ b) (h2 : b ≤ n) => insS_ok (f := f) (g := g) (hl.ext hW) h1 h2 (hc.ext hW) eg hn)
  have HS := Lib.hid (fun (a m b : Nat) (W : World) (hW : Ext w W) (h1 : a < m) (h2 : m < b) (h3 : b ≤ n) => symS_ok (f := f) (g := g) (b - a) (Nat.le_refl _) h1 h2 h3 (hl.ext hW) (hc.ext hW) eg hn)
  clear hl hc
  go_enter Try.func57, Try.ntmps57
  go_wp2_with fail
  go_loopw [7, 8] (fun av bv wr => ∃ a : Nat, a ≤ n ∧ av = .int .i64 a ∧ bv = .int .i64 ((a : Int) + 20) ∧ Ext w wr) (fun av _ _ => n - (intOf av).toNat)
  case atStart => exact ⟨0, Nat.zero_le _, rfl, rfl, Ext.refl _⟩
  case round =>
    obtain ⟨a, ha, rfl, rfl, he⟩ := hrel
    by_cases hlt : a + 20 ≤ n
    · go_wp2_with fail
      refine (HI.out a (a + 20) _ he (by omega) hlt).mono ?_
      rintro e w2 ⟨rfl, hx⟩
      go_wp2_with fail
      go_roundw
      case rel => exact ⟨a + 20, hlt, by go_num, by go_num, he.trans hx⟩
      case measure => simp [intOf]; omega
    · go_wp2_with fail
      refine (HI.out a n _ he ha (Nat.le_refl _)).mono ?_
      rintro e w2 ⟨rfl, hx⟩
      have he2 := he.trans hx
      clear he hx hlt ha
      go_wp2_with fail
      go_loopw [6, 7, 8, 9] (fun sv _ _ _ wr => ∃ s : Nat, 1 ≤ s ∧ s ≤ 200000 ∧ sv = .int .i64 s ∧ Ext w wr) (fun sv _ _ _ _ => n - (intOf sv).toNat)
      case atStart => exact ⟨20, by omega, by omega, rfl, he2⟩
      case round =>
        clear he2
        obtain ⟨s, hs1, hs2, rfl, he⟩ := hrel
        by_cases hlt : s < n
        · go_wp2_with fail
          generalize wr = w1 at *
          go_loopw [7, 8] (fun av bv wr => ∃ a : Nat, a ≤ n ∧ av = .int .i64 a ∧ bv = .int .i64 ((a : Int) + 2 * (s : Int)) ∧ Ext w wr) (fun av _ _ => n - (intOf av).toNat)
          case atStart => exact ⟨0, Nat.zero_le _, rfl, by go_num, he⟩
          case round =>
            clear he
            obtain ⟨a, ha, rfl, rfl, he⟩ := hrel
            by_cases hl2 : a + 2 * s ≤ n
            · go_wp2_with fail
              refine (HS.out a (a + s) (a + 2 * s) _ he (by omega) (by omega) hl2).mono ?_
              rintro e w2 ⟨rfl, hx⟩
              go_wp2_with fail
              go_roundw
              case rel => exact ⟨a + 2 * s, hl2, by go_num, by go_num, he.trans hx⟩
              case measure => simp [intOf]; omega
            · by_cases hm : a + s < n
              · go_wp2_with fail
                refine (HS.out a (a + s) n _ he (by omega) hm (Nat.le_refl _)).mono ?_
                rintro e w2 ⟨rfl, hx⟩
                go_wp2_with fail
                go_roundw
                case rel => exact ⟨2 * s, by omega, by omega, by go_num, he.trans hx⟩
                case measure => simp [intOf]; omega
              · go_wp2_with fail
                go_roundw
                case rel => exact ⟨2 * s, by omega, by omega, by go_num, he⟩
                case measure => simp [intOf]; omega
        · go_wp2_with fail
          go_end0
          exact ⟨rfl, he⟩

set_option maxRecDepth 20000 in
theorem sortStable_ok {A : Option Addr} {n c f g : Nat} {l : List Int} {w : World} (hl : Ints w A n c l) (hc : CmpOn w f g l) (eg : ∀ args W, (callFunc f args).run Try.prog W = .ok (.enter f args) W) (hn : n ≤ 100000) :
    Calls Try.prog 39 #[.slice A n c, .func (.func f) #[] #[.pointer (some ⟨g, 0, none⟩)]] w fun e w' => e = .returned (.tuple #[]) ∧ Ext w w' := by
  have HI := Lib.hid (stable_ok hl hc eg hn)
  have hnc := hl.ncap
  clear hl hc
  go_enter Try.func39, Try.ntmps39
  go_wp2_with fail
  refine HI.out.mono ?_
  rintro e w2 ⟨rfl, hx⟩
  go_wp2_with fail
  go_end0
  exact ⟨rfl, hx⟩
end Go.Proofs.Ytdkjkcegchohfaa
