/-
  The walk of the statement that how far is a distance.
-/
import Derived.Test.YtfegfgnnbmnagaaNearF
namespace Go.Proofs.Ytfegfgnnbmnagaa
open Go.RowKit
set_option linter.unusedVariables false

theorem kitten : dist (chars ⟨#[107, 105, 116, 116, 101, 110]⟩) (chars ⟨#[115, 105, 116, 116, 105, 110, 103]⟩) = 3 := by
  simp [dist, chars, lev]
theorem kitten_far : farV (chars ⟨#[107, 105, 116, 116, 101, 110]⟩) (chars ⟨#[115, 105, 116, 116, 105, 110, 103]⟩) = 3 := by
  unfold farV
  rw [if_pos (by decide), kitten]
  rfl

set_option maxHeartbeats 4000000 in
theorem nearMetric_walk {a b c : List Int} {A B C : Option Addr} {n m k n' m' k' : Nat} {w : World} (ha : Ints w A n n' a) (hb : Ints w B m m' b) (hc : Ints w C k k' c) :
    Calls Try.prog 3 #[.slice A n n', .slice B m m', .slice C k k'] w fun e w' => e = .returned (.bool true) ∧ Ext w w' := by
  have hk := kitten_far
  have a1 := Nat.le_trans ha.ncap ha.nmax
  have a2 := Nat.le_trans hb.ncap hb.nmax
  have l1 := farV_le a b
  have l2 := farV_le b c
  have l3 := farV_le a c
  unfold maxLen at a1 a2
  go_enter Try.func3, Try.ntmps3
  go_wp2_with fail
  refine (of_ok _ _ (by decide)).mono ?_
  rintro e w1 ⟨A1, c1, rfl, ho1, he1⟩
  go_wp2_with fail
  refine (of_ok _ _ (by decide)).mono ?_
  rintro e w2 ⟨A2, c2, rfl, ho2, he2⟩
  go_wp2_with fail
  refine (far_ok (ho1.ints.ext he2) ho2.ints).mono ?_
  rintro e w3 ⟨rfl, he3⟩
  have e3 : Ext w w3 := he1.trans (he2.trans he3)
  clear he1 he2 he3 ho1 ho2
  go_wp2_with fail
  refine (far_ok (ha.ext e3) (hb.ext e3)).mono ?_
  rintro e w4 ⟨rfl, he4⟩
  have e4 := e3.trans he4
  go_wp2_with fail
  refine (far_ok (hb.ext e4) (hc.ext e4)).mono ?_
  rintro e w5 ⟨rfl, he5⟩
  have e5 := e4.trans he5
  go_wp2_with fail
  refine (far_ok (ha.ext e5) (hc.ext e5)).mono ?_
  rintro e w6 ⟨rfl, he6⟩
  have e6 := e5.trans he6
  clear e3 e4 e5 he4 he5 he6
  by_cases t1 : farV a b < 0
  · go_wp2_with fail
    go_ret
    exact ⟨rfl, e6⟩
  by_cases t2 : farV b c < 0
  · go_wp2_with fail
    go_ret
    exact ⟨rfl, e6⟩
  by_cases t3 : farV a c < 0
  · go_wp2_with fail
    go_ret
    exact ⟨rfl, e6⟩
  have hal := ha.len
  have hbl := hb.len
  have u0 : 0 ≤ farV a b := by omega
  have u1 := farV_high u0
  have u2 := farV_low u0
  have u3 := farV_tri (a := a) (b := b) (c := c) (by omega) (by omega) (by omega)
  have u4 : (farV a b == farV b a) = true := by rw [farV_comm b a]; simp
  have u5 := farV_zero u0
  rw [hal, hbl] at u1 u2
  clear hal hbl
  have U := Lib.hid u5
  clear u5
  go_wp2_with fail
  refine (far_ok (hb.ext e6) (ha.ext e6)).mono ?_
  rintro e w7 ⟨rfl, he7⟩
  have e7 := e6.trans he7
  clear e6 he7
  go_wp2_with fail
  refine (equal_ext (ha.ext e7) (hb.ext e7)).mono ?_
  rintro e w8 ⟨rfl, he8⟩
  have e8 := e7.trans he8
  clear e7 he8
  have u6 : ((farV a b == 0) == eqB a b) = true := by rw [U.out]; simp
  go_wp2_with fail
  all_goals go_ret
  all_goals exact ⟨rfl, e8⟩
end Go.Proofs.Ytfegfgnnbmnagaa
