/-
  Histories that read alike are the same to the statements.
-/
import Derived.Test.YtbhbakejpgndmaaHisG
import Derived.Test.YtbhbakejpgndmaaSameL
import Derived.Test.YtbhbakejpgndmaaHisW
import Derived.Test.YtbhbakejpgndmaaSpoR
namespace Go.Proofs.Ytbhbakejpgndmaa
open Go.RowKit
set_option linter.unusedVariables false
set_option linter.unusedSimpArgs false

set_option maxRecDepth 20000 in
set_option maxHeartbeats 4000000 in
theorem sameH_ok {w : World} {v v' : Value} {h : Hi} (hv : HisV w v h) (hv' : HisV w v' h) :
    Calls Try.prog 37 #[v, v'] w fun e w' => e = .returned (.bool true) ∧ Ext w w' := by
  obtain ⟨A, n, c, S, sn, sc, P, pn, pc, rfl, hL, hA, hS, hP⟩ := hv
  obtain ⟨A', n', c', S', sn', sc', P', pn', pc', rfl, hL', hA', hS', hP'⟩ := hv'
  obtain ⟨_, _, _, e1, i1, _⟩ := hS
  obtain ⟨_, _, _, e2, i2, _⟩ := hP
  obtain ⟨_, _, _, e3, i3, _⟩ := hS'
  obtain ⟨_, _, _, e4, i4, _⟩ := hP'
  injection e1 with q1 q2 q3; subst q1; subst q2; subst q3
  injection e2 with q1 q2 q3; subst q1; subst q2; subst q3
  injection e3 with q1 q2 q3; subst q1; subst q2; subst q3
  injection e4 with q1 q2 q3; subst q1; subst q2; subst q3
  obtain ⟨ls, mo, at_, sl, pl, ol⟩ := h
  simp only at hL hL' i1 i2 i3 i4 ⊢
  have hnn : n = n' := by rw [← hL.len]; exact hL'.len
  subst hnn
  obtain ⟨W0, hW0⟩ : ∃ W0, W0 = (w.alloc (.cells (hisC A n c mo at_ S sn sc P pn pc ol) 55)).alloc (.cells (hisC A' n c' mo at_ S' sn' sc' P' pn' pc' ol) 55) := ⟨_, rfl⟩
  have b2 : Blk W0 w.heap.size 55 (hisC A n c mo at_ S sn sc P pn pc ol) := by rw [hW0]; exact (Blk.new w _ _).ext (Ext.alloc _ _)
  have b3 : Blk W0 (w.heap.size + 1) 55 (hisC A' n c' mo at_ S' sn' sc' P' pn' pc' ol) := by
    have := Blk.new (w.alloc (.cells (hisC A n c mo at_ S sn sc P pn pc ol) 55)) 55 (hisC A' n c' mo at_ S' sn' sc' P' pn' pc' ol)
    rw [World.size_alloc] at this
    rw [hW0]; exact this
  have hx0 : Ext w W0 := by rw [hW0]; exact (Ext.alloc _ _).to_alloc _
  have HE1 := Lib.hid (equal_ok (i1.ext hx0) (i3.ext hx0))
  have HX0 := Lib.hid hx0
  have I2 := Lib.hid (i2.ext hx0)
  have I4 := Lib.hid (i4.ext hx0)
  have HL := Lib.hid (hL.ext hx0)
  have HL' := Lib.hid (hL'.ext hx0)
  have es : eqB sl sl = true := by simp [eqB]
  have ep : eqB pl pl = true := by simp [eqB]
  rw [es] at HE1
  obtain ⟨c0, c1, c2, c3, c4, c5⟩ := cells6 b2
  obtain ⟨d0, d1, d2, d3, d4, d5⟩ := cells6 b3
  clear hL hL' i1 i2 i3 i4 hx0 b2 b3
  unfold hisC at *
  go_enter Try.func37, Try.ntmps37
  go_upto_region 1 with fail
  change Code.wp _ _ _ _ ((w.alloc (.cells #[.slice A n c, .int .i64 mo, .int .i64 at_, .slice S sn sc, .slice P pn pc, .bool ol] 55)).alloc (.cells #[.slice A' n c', .int .i64 mo, .int .i64 at_, .slice S' sn' sc', .slice P' pn' pc', .bool ol] 55))
  rw [← hW0]
  clear hW0
  go_wp2_with fail
  refine HE1.out.mono ?_
  rintro e _ ⟨rfl, k1, rfl⟩
  have hx1 := Ext.drewN W0 k1
  have HE2 := Lib.hid (equal_ok (I2.out.ext hx1) (I4.out.ext hx1))
  rw [ep] at HE2
  clear HE1
  go_wp2_with fail
  refine HE2.out.mono ?_
  rintro e _ ⟨rfl, k2, rfl⟩
  have hx2 := Ext.drewN W0 (k1 + k2)
  have HE3 := Lib.hid (sameL_ok (HL.out.ext hx2) (HL'.out.ext hx2))
  clear HE2
  go_wp2_with fail
  refine HE3.out.mono ?_
  rintro e w3 ⟨rfl, he3⟩
  have hx3 := Lib.hid ((HX0.out.trans hx2).trans he3)
  clear HE3 he3 hx1 hx2
  go_wp2_with fail
  go_ret
  exact ⟨rfl, hx3.out⟩
end Go.Proofs.Ytbhbakejpgndmaa
