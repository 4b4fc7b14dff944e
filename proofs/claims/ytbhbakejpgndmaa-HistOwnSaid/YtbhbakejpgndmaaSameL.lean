/-
  SameLists, SameHist of what is the same.
-/
import Derived.Test.YtbhbakejpgndmaaHisU
import Derived.Test.YtbhbakejpgndmaaEq
namespace Go.Proofs.Ytbhbakejpgndmaa
open Go.RowKit
set_option linter.unusedVariables false
set_option linter.unusedSimpArgs false

set_option maxRecDepth 20000 in
set_option maxHeartbeats 2000000 in
theorem eqfL_ok {A B : Option Addr} {n c d : Nat} {ls : List (List Int)} {w : World} (hl : Lns w A n c ls) (hl' : Lns w B n d ls) :
    Calls Try.prog 51 #[.slice A n c, .slice B n d, .func (.func 27) #[] #[]] w fun e w' => e = .returned (.bool true) ∧ Ext w w' := by
  have h1 := Nat.le_trans hl.ncap hl.nmax
  unfold maxLen at h1
  have HL := Lib.hid hl
  have HL' := Lib.hid hl'
  have hne : ((n : Int) != (n : Int)) = false := by simp
  clear hl hl'
  go_enter Try.func51, Try.ntmps51
  go_wp2_with fail
  go_loopw [17] (fun i wr => ∃ k : Nat, k ≤ n ∧ i = .int .i64 k ∧ Hid (Ext w wr)) (fun i _ => n - (intOf i).toNat)
  case atStart => exact ⟨0, by omega, rfl, Lib.hid (Ext.refl _)⟩
  case round =>
    obtain ⟨k, hk, rfl, hx⟩ := hrel
    by_cases hlt : k < n
    · obtain ⟨a1, v1, rfl, hc1, B1, m1, q1, rfl, hI1, _⟩ := (HL.out.ext hx.out).at_ hlt
      obtain ⟨a2, v2, rfl, hc2, B2, m2, q2, rfl, hI2, _⟩ := (HL'.out.ext hx.out).at_ hlt
      have HQ := Lib.hid (equal_ext hI1 hI2)
      rw [eqB_true.2 rfl] at HQ
      clear hI1 hI2
      go_wp2_with fail
      refine HQ.out.mono ?_
      rintro e w1 ⟨rfl, he1⟩
      have hx1 := Lib.hid (hx.out.trans he1)
      clear HQ he1 hc1 hc2 hx
      go_wp2_with fail
      go_roundw
      case rel => exact ⟨k + 1, by omega, by go_num, hx1⟩
      case measure => simp [intOf]; omega
    · obtain rfl : k = n := by omega
      go_wp2_with fail
      go_ret
      exact ⟨rfl, hx.out⟩

set_option maxRecDepth 20000 in
set_option maxHeartbeats 2000000 in
theorem sameL_ok {A B : Option Addr} {n c d : Nat} {ls : List (List Int)} {w : World} (hl : Lns w A n c ls) (hl' : Lns w B n d ls) :
    Calls Try.prog 34 #[.slice A n c, .slice B n d] w fun e w' => e = .returned (.bool true) ∧ Ext w w' := by
  have HE := Lib.hid (eqfL_ok hl hl')
  clear hl hl'
  go_enter Try.func34, Try.ntmps34
  go_wp2_with fail
  refine HE.out.mono ?_
  rintro e w1 ⟨rfl, he1⟩
  clear HE
  go_wp2_with fail
  go_ret
  exact ⟨rfl, he1⟩
end Go.Proofs.Ytbhbakejpgndmaa
