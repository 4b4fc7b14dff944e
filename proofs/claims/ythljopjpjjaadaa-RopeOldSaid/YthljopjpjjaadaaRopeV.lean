/-
  The walk of RopeJoins.
-/
import Derived.Test.YthljopjpjjaadaaRopeU
namespace Go.Proofs.Ythljopjpjjaadaa
open Go.RowKit
set_option linter.unusedVariables false
set_option linter.unusedSimpArgs false

/-- A rope in a variable. -/
def RB (w : World) (g : Nat) (v : Option Addr) (t : Tr) : Prop := w.cell? ⟨g, 0, none⟩ = some (.pointer v) ∧ TreeAt w v t
theorem RB.ext {w w' : World} {g : Nat} {v : Option Addr} {t : Tr} (h : RB w g v t) (he : Ext w w') : RB w' g v t := ⟨he.cell h.1, TreeAt.ext he h.2⟩
theorem RB.new {w : World} {v : Option Addr} {t : Tr} (h : TreeAt w v t) : RB (w.alloc (.cells #[.pointer v] 26)) w.heap.size v t :=
  ⟨by simp, TreeAt.ext (Ext.alloc _ _) h⟩

def J4 (wr : World) (g9 g16 g17 g18 : Nat) (v9 v16 v17 v18 : Option Addr) (w' : World) : Prop :=
  w'.cell? ⟨g9, 0, none⟩ = some (.pointer v9) ∧ w'.cell? ⟨g16, 0, none⟩ = some (.pointer v16) ∧ w'.cell? ⟨g17, 0, none⟩ = some (.pointer v17) ∧ w'.cell? ⟨g18, 0, none⟩ = some (.pointer v18) ∧ Ext wr w'
theorem J4.ext {wr w' : World} {g9 g16 g17 g18 : Nat} {v9 v16 v17 v18 : Option Addr} (h : J4 wr g9 g16 g17 g18 v9 v16 v17 v18 w') : Ext wr w' := h.2.2.2.2
theorem J4.call {wr w' w2 : World} {g9 g16 g17 g18 : Nat} {v9 v16 v17 v18 : Option Addr} (h : J4 wr g9 g16 g17 g18 v9 v16 v17 v18 w') (he : Ext w' w2) : J4 wr g9 g16 g17 g18 v9 v16 v17 v18 w2 :=
  ⟨he.cell h.1, he.cell h.2.1, he.cell h.2.2.1, he.cell h.2.2.2.1, h.2.2.2.2.trans he⟩
theorem equal_same {A B : Option Addr} {n c m d : Nat} {l : List Int} {w : World} (hl : Ints w A n c l) (hl' : Ints w B m d l) :
    Calls Try.prog 11 #[.slice A n c, .slice B m d] w fun e w' => e = .returned (.bool true) ∧ Ext w w' := by
  have h := equal_ext hl hl'
  rwa [show eqB l l = true from by simp [eqB]] at h

set_option maxRecDepth 100000 in
set_option maxHeartbeats 40000000 in
theorem ropeJoins_walk {a b c : List Int} {A B C : Option Addr} {n m q d1 d2 d3 : Nat} {w : World} (ha : Ints w A n d1 a) (hb : Ints w B m d2 b) (hc : Ints w C q d3 c) :
    Calls Try.prog 5 #[.slice A n d1, .slice B m d2, .slice C q d3] w fun e w' => e = .returned (.bool true) ∧ Ext w w' := by
  have hx1 := Ext.alloc w (.cells #[.int .i64 1] 3)
  have hI : Ints (w.alloc (.cells #[.int .i64 1] 3)) (some ⟨w.heap.size, 0, none⟩) 1 1 [1] := Blk.ints (l := [1]) (Blk.new _ _ _) rfl (by decide)
  have HR := Lib.hid (roped_any hI)
  have HA := Lib.hid ha
  have HB := Lib.hid hb
  have HC := Lib.hid hc
  clear hI ha hb hc
  go_enter Try.func5, Try.ntmps5
  go_wp2_with fail
  refine HR.out.mono ?_
  rintro e w1 ⟨v1, rfl, t1, he1⟩
  have hx2 := hx1.trans he1
  have hxb := Ext.alloc w1 (.cells #[.int .i64 2] 3)
  have hI : Ints (w1.alloc (.cells #[.int .i64 2] 3)) (some ⟨w1.heap.size, 0, none⟩) 1 1 [2] := Blk.ints (l := [2]) (Blk.new _ _ _) rfl (by decide)
  have HR2 := Lib.hid (roped_any hI)
  have HT1 := Lib.hid (TreeAt.ext hxb t1)
  clear hI HR t1 hx1 he1
  go_wp2_with fail
  refine HR2.out.mono ?_
  rintro e w2 ⟨v2, rfl, t2, he2⟩
  obtain ⟨jl1, jl2, jl3⟩ := joins_lit
  have HJ := Lib.hid (joinR_any (TreeAt.ext he2 HT1.out) t2 (rop_bal _).2 (rop_bal _).2 (rop_bal _).1 (rop_bal _).1)
  rw [jl1] at HJ
  clear HR2 HT1 t2
  have hx3 := hx2.trans (hxb.trans he2)
  clear hx2 hxb he2 jl1
  go_wp2_with fail
  refine HJ.out.mono ?_
  rintro e w3 ⟨v3, rfl, t3, he3⟩
  have r7 := RB.new t3
  have HLi := Lib.hid (list_ok r7.2 (by rw [jl3]; decide))
  rw [jl2, jl3] at HLi
  clear r7 t3 jl2 jl3
  have hx4 := (hx3.trans he3).trans (Ext.alloc w3 (.cells #[.pointer v3] 26))
  clear hx3 he3 HJ
  go_wp2_with fail
  refine HLi.out.mono ?_
  rintro e w4 ⟨A4, c4, rfl, o4, he4⟩
  have hI : Ints (w4.alloc (.cells #[.int .i64 1, .int .i64 2] 3)) (some ⟨w4.heap.size, 0, none⟩) 2 2 [1, 2] := Blk.ints (l := [1, 2]) (Blk.new _ _ _) rfl (by decide)
  have hxb := Ext.alloc w4 (.cells #[.int .i64 1, .int .i64 2] 3)
  have HQ := Lib.hid (equal_ext (o4.ints.ext hxb) hI)
  rw [show eqB [1, 2] [1, 2] = true from by decide] at HQ
  have hx5 := (hx4.trans he4).trans hxb
  clear HLi o4 he4 hI hxb hx4
  go_wp2_with fail
  refine HQ.out.mono ?_
  rintro e w5 ⟨rfl, he5⟩
  have hx6 := hx5.trans he5
  have HR := Lib.hid (roped_any (HA.out.ext hx6))
  clear HQ hx5 he5
  go_wp2_with fail
  refine HR.out.mono ?_
  rintro e w6 ⟨vx, rfl, tx, he6⟩
  have hx7 := hx6.trans he6
  have HR2 := Lib.hid (roped_any (HB.out.ext hx7))
  clear HR hx6
  go_wp2_with fail
  refine HR2.out.mono ?_
  rintro e w7 ⟨vy, rfl, ty, he7⟩
  have hx8 := hx7.trans he7
  have HR3 := Lib.hid (roped_any (HC.out.ext hx8))
  clear HR2 hx7
  go_wp2_with fail
  refine HR3.out.mono ?_
  rintro e w8 ⟨vz, rfl, tz, he8⟩
  have hx9 := hx8.trans he8
  clear hx8 HR3 HA HB HC
  obtain ⟨bx, sx⟩ := rop_bal a
  obtain ⟨bY, sy⟩ := rop_bal b
  obtain ⟨bz, sz⟩ := rop_bal c
  replace tx := TreeAt.ext (he7.trans he8) tx
  replace ty := TreeAt.ext he8 ty
  clear he6 he7 he8
  have HBX := Lib.hid (And.intro bx (And.intro bY bz))
  clear bx bY bz
  generalize ropF a = x at *
  generalize ropF b = y at *
  generalize ropF c = z at *
  have ex := Ext.alloc w8 (.cells #[.pointer vx] 26)
  have ey := Ext.alloc (w8.alloc (.cells #[.pointer vx] 26)) (.cells #[.pointer vy] 26)
  have ez := Ext.alloc ((w8.alloc (.cells #[.pointer vx] 26)).alloc (.cells #[.pointer vy] 26)) (.cells #[.pointer vz] 26)
  have r9 := (RB.new tx).ext (ey.trans ez)
  have r10 := (RB.new (TreeAt.ext ex ty)).ext ez
  have r11 := RB.new (TreeAt.ext (ex.trans ey) tz)
  have hx10 := hx9.trans (ex.trans (ey.trans ez))
  rw [show (w8.alloc (.cells #[.pointer vx] 26)).heap.size = w8.heap.size + 1 by simp] at r10
  rw [show ((w8.alloc (.cells #[.pointer vx] 26)).alloc (.cells #[.pointer vy] 26)).heap.size = w8.heap.size + 1 + 1 by simp] at r11
  have HJ := Lib.hid (joinR_any r9.2 r10.2 sx sy HBX.out.1 HBX.out.2.1)
  have c9 := r9.1
  have c10 := r10.1
  have c11 := r11.1
  have R9 := Lib.hid r9
  have R10 := Lib.hid r10
  have R11 := Lib.hid r11
  clear r9 r10 r11 ex ey ez tx ty tz hx9
  have HE1 : Hid (joinE x y = joinE x y) := Lib.hid rfl
  have HJoins : Hid (joinE x y = 0 → joinE y z = 0 → joinE (joinT x y) z = joinE x (joinT y z) ∧ (joinT (joinT x y) z).toL = (joinT x (joinT y z)).toL ∧ (joinT (joinT x y) z).sz = (joinT x (joinT y z)).sz) := Lib.hid (joins_eq HBX.out.1 HBX.out.2.1 HBX.out.2.2)
  have HNil := Lib.hid (join_nil HBX.out.1 sx)
  have HXY := Lib.hid (joinT_ok HBX.out.1 HBX.out.2.1)
  have HYZ := Lib.hid (joinT_ok HBX.out.2.1 HBX.out.2.2)
  have HL4 := Lib.hid (joinT_ok HXY.out.1 HBX.out.2.2)
  have HR4 := Lib.hid (joinT_ok HBX.out.1 HYZ.out.1)
  clear HE1
  go_wp2_with fail
  refine HJ.out.mono ?_
  rintro e w9 ⟨vxy, rfl, txy, he9⟩
  clear HJ
  have xb := Ext.alloc w9 (.cells #[.pointer vxy] 26)
  have r12 := RB.new txy
  have hf := he9.trans xb
  clear txy xb he9
  have r9 := R9.out
  have r10 := R10.out
  have r11 := R11.out
  clear R9 c9 R10 c10 R11 c11
  replace r9 := r9.ext hf
  replace r10 := r10.ext hf
  replace r11 := r11.ext hf
  have hx11 := hx10.trans hf
  clear hf hx10
  have HJ := Lib.hid (joinR_any r10.2 r11.2 sy sz HBX.out.2.1 HBX.out.2.2)
  have c9 := r9.1
  have c10 := r10.1
  have c11 := r11.1
  have c12 := r12.1
  have R9 := Lib.hid r9
  have R10 := Lib.hid r10
  have R11 := Lib.hid r11
  have R12 := Lib.hid r12
  clear r9 r10 r11 r12
  generalize hz1 : joinE x y = z1 at *
  generalize hz2 : joinE y z = z2 at *
  have Hz := Lib.hid (And.intro hz1 hz2)
  clear hz1 hz2
  go_wp2_with fail
  refine HJ.out.mono ?_
  rintro e w10 ⟨vyz, rfl, tyz, he10⟩
  clear HJ
  have xb := Ext.alloc w10 (.cells #[.pointer vyz] 26)
  have r14 := RB.new tyz
  have hf := he10.trans xb
  clear tyz xb he10
  have r9 := R9.out
  have r10 := R10.out
  have r11 := R11.out
  have r12 := R12.out
  clear R9 c9 R10 c10 R11 c11 R12 c12
  replace r9 := r9.ext hf
  replace r10 := r10.ext hf
  replace r11 := r11.ext hf
  replace r12 := r12.ext hf
  have hx12 := hx11.trans hf
  clear hf hx11
  have HJ := Lib.hid (joinR_any r12.2 r11.2 HXY.out.2.1 sz HXY.out.1 HBX.out.2.2)
  have c9 := r9.1
  have c11 := r11.1
  have c12 := r12.1
  have c14 := r14.1
  have R9 := Lib.hid r9
  have R11 := Lib.hid r11
  have R12 := Lib.hid r12
  have R14 := Lib.hid r14
  clear r9 r11 r12 r14
  clear r10
  by_cases h1 : z1 = 0
  rotate_left
  · have k1 : (z1 != 0) = true := by simpa using h1
    clear HJ HJoins HXY HYZ HNil HL4 HR4
    go_wp2_with fail
    go_ret
    exact ⟨rfl, hx12⟩
  by_cases h2 : z2 = 0
  rotate_left
  · subst h1
    have k1 : (z2 != 0) = true := by simpa using h2
    clear HJ HJoins HXY HYZ HNil HL4 HR4
    go_wp2_with fail
    go_ret
    exact ⟨rfl, hx12⟩
  subst h1 h2
  obtain ⟨hq1, hq2, hq3⟩ := HJoins.out rfl rfl
  rw [hq1] at HJ
  clear HJoins
  go_wp2_with fail
  refine HJ.out.mono ?_
  rintro e w11 ⟨vl, rfl, tl, he11⟩
  clear HJ
  have xb := Ext.alloc w11 (.cells #[.pointer vl] 26)
  have r16 := RB.new tl
  have hf := he11.trans xb
  clear tl xb he11
  have r9 := R9.out
  have r11 := R11.out
  have r12 := R12.out
  have r14 := R14.out
  clear R9 c9 R11 c11 R12 c12 R14 c14
  replace r9 := r9.ext hf
  replace r11 := r11.ext hf
  replace r12 := r12.ext hf
  replace r14 := r14.ext hf
  have hx13 := hx12.trans hf
  clear hf hx12 r11 r12
  have HJ := Lib.hid (joinR_any r9.2 r14.2 sx HYZ.out.2.1 HBX.out.1 HYZ.out.1)
  have c9 := r9.1
  have c14 := r14.1
  have c16 := r16.1
  have R9 := Lib.hid r9
  have R14 := Lib.hid r14
  have R16 := Lib.hid r16
  clear r9 r14 r16
  generalize joinE x (joinT y z) = z3 at *
  go_wp2_with fail
  refine HJ.out.mono ?_
  rintro e w12 ⟨vr, rfl, tr, he12⟩
  clear HJ
  have xb := Ext.alloc w12 (.cells #[.pointer vr] 26)
  have r17 := RB.new tr
  have hf := he12.trans xb
  clear tr xb he12
  have r9 := R9.out
  have r14 := R14.out
  have r16 := R16.out
  clear R9 c9 R14 c14 R16 c16
  replace r9 := r9.ext hf
  replace r14 := r14.ext hf
  replace r16 := r16.ext hf
  have hx14 := hx13.trans hf
  clear hf hx13 r14
  obtain ⟨n1, n2, n3⟩ := HNil.out
  have HJ := Lib.hid (joinR_any (b := none) (r := .nil) r9.2 rfl sx (by simp [Tr.sz]) HBX.out.1 trivial)
  rw [n1] at HJ
  have c9 := r9.1
  have c16 := r16.1
  have c17 := r17.1
  have R9 := Lib.hid r9
  have R16 := Lib.hid r16
  have R17 := Lib.hid r17
  clear r9 r16 r17
  clear n1 HNil
  go_wp2_with fail
  refine HJ.out.mono ?_
  rintro e w13 ⟨vn, rfl, tn, he13⟩
  clear HJ
  have xb := Ext.alloc w13 (.cells #[.pointer vn] 26)
  have r18 := RB.new tn
  have hf := he13.trans xb
  clear tn xb he13
  have r9 := R9.out
  have r16 := R16.out
  have r17 := R17.out
  clear R9 c9 R16 c16 R17 c17
  replace r9 := r9.ext hf
  replace r16 := r16.ext hf
  replace r17 := r17.ext hf
  have hx15 := hx14.trans hf
  clear hf hx14
  have k9 := HR4.out.2.1
  have LL : Hid (∀ wq, Ext _ wq → _) := Lib.hid fun wq he => list_ok (TreeAt.ext he r16.2) (by omega)
  have LR : Hid (∀ wq, Ext _ wq → _) := Lib.hid fun wq he => list_ok (TreeAt.ext he r17.2) (by omega)
  have LN : Hid (∀ wq, Ext _ wq → _) := Lib.hid fun wq he => list_ok (TreeAt.ext he r18.2) (by omega)
  have LX : Hid (∀ wq, Ext _ wq → _) := Lib.hid fun wq he => list_ok (TreeAt.ext he r9.2) (by omega)
  rw [hq2, hq3] at LL
  rw [n2, n3] at LN
  clear hq1 hq2 hq3 n2 n3 k9
  have c9 := r9.1
  have c16 := r16.1
  have c17 := r17.1
  have c18 := r18.1
  clear r9 r16 r17 r18
  generalize (joinT x (joinT y z)).toL = l1 at *
  generalize (joinT x (joinT y z)).sz = s1 at *
  generalize x.toL = l2 at *
  generalize x.sz = s2 at *
  have hxd := Ext.drew (w13.alloc (.cells #[.pointer vn] 26))
  clear HBX HL4 Hz HYZ HXY HR4
  go_wp2_with fail
  go_region_held3 (fun w' => w'.cell? ⟨w8.heap.size, 0, none⟩ = some (.pointer vx) ∧ w'.cell? ⟨w11.heap.size, 0, none⟩ = some (.pointer vl) ∧ w'.cell? ⟨w12.heap.size, 0, none⟩ = some (.pointer vr) ∧ w'.cell? ⟨w13.heap.size, 0, none⟩ = some (.pointer vn) ∧ Ext (w13.alloc (.cells #[.pointer vn] 26)) w')
    (first | assumption | exact ⟨c9, c16, c17, c18, hxd⟩) (first
    | (go_at_call_of 18 vl
       refine (LL.out _ (by first | exact hxd | exact J4.ext (wr := (w13.alloc (.cells #[.pointer vn] 26))) (g9 := w8.heap.size) (g16 := w11.heap.size) (g17 := w12.heap.size) (g18 := w13.heap.size) (v9 := vx) (v16 := vl) (v17 := vr) (v18 := vn) (by assumption))).mono ?_
       rintro e wa1 ⟨A1, d4, rfl, o1, e1⟩
       have hS1 := J4.call (wr := (w13.alloc (.cells #[.pointer vn] 26))) (g9 := w8.heap.size) (g16 := w11.heap.size) (g17 := w12.heap.size) (g18 := w13.heap.size) (v9 := vx) (v16 := vl) (v17 := vr) (v18 := vn) (by assumption) e1)
    | (go_at_call_of 18 vr
       refine (LR.out _ (by first | exact hxd | exact J4.ext (wr := (w13.alloc (.cells #[.pointer vn] 26))) (g9 := w8.heap.size) (g16 := w11.heap.size) (g17 := w12.heap.size) (g18 := w13.heap.size) (v9 := vx) (v16 := vl) (v17 := vr) (v18 := vn) (by assumption))).mono ?_
       rintro e wa2 ⟨A2, d5, rfl, o2, e2⟩
       have hS2 := J4.call (wr := (w13.alloc (.cells #[.pointer vn] 26))) (g9 := w8.heap.size) (g16 := w11.heap.size) (g17 := w12.heap.size) (g18 := w13.heap.size) (v9 := vx) (v16 := vl) (v17 := vr) (v18 := vn) (by assumption) e2)
    | (go_at_call_of 18 vn
       refine (LN.out _ (by first | exact hxd | exact J4.ext (wr := (w13.alloc (.cells #[.pointer vn] 26))) (g9 := w8.heap.size) (g16 := w11.heap.size) (g17 := w12.heap.size) (g18 := w13.heap.size) (v9 := vx) (v16 := vl) (v17 := vr) (v18 := vn) (by assumption))).mono ?_
       rintro e wa3 ⟨A3, d6, rfl, o3, e3⟩
       have hS3 := J4.call (wr := (w13.alloc (.cells #[.pointer vn] 26))) (g9 := w8.heap.size) (g16 := w11.heap.size) (g17 := w12.heap.size) (g18 := w13.heap.size) (v9 := vx) (v16 := vl) (v17 := vr) (v18 := vn) (by assumption) e3)
    | (go_at_call_of 18 vx
       refine (LX.out _ (by first | exact hxd | exact J4.ext (wr := (w13.alloc (.cells #[.pointer vn] 26))) (g9 := w8.heap.size) (g16 := w11.heap.size) (g17 := w12.heap.size) (g18 := w13.heap.size) (v9 := vx) (v16 := vl) (v17 := vr) (v18 := vn) (by assumption))).mono ?_
       rintro e wa4 ⟨A4, d7, rfl, o4, e4⟩
       have hS4 := J4.call (wr := (w13.alloc (.cells #[.pointer vn] 26))) (g9 := w8.heap.size) (g16 := w11.heap.size) (g17 := w12.heap.size) (g18 := w13.heap.size) (v9 := vx) (v16 := vl) (v17 := vr) (v18 := vn) (by assumption) e4)
    | (go_at_call_of 11 A1
       refine (equal_same (by first | exact o1.ints | exact o1.ints.ext e2) (by first | exact o2.ints | exact o2.ints.ext e1)).mono ?_
       rintro e wq1 ⟨rfl, f1⟩
       have hT1 := J4.call (wr := (w13.alloc (.cells #[.pointer vn] 26))) (g9 := w8.heap.size) (g16 := w11.heap.size) (g17 := w12.heap.size) (g18 := w13.heap.size) (v9 := vx) (v16 := vl) (v17 := vr) (v18 := vn) (by assumption) f1)
    | (go_at_call_of 11 A3
       refine (equal_same (by first | exact o3.ints | exact o3.ints.ext e4) (by first | exact o4.ints | exact o4.ints.ext e3)).mono ?_
       rintro e wq2 ⟨rfl, f2⟩
       have hT2 := J4.call (wr := (w13.alloc (.cells #[.pointer vn] 26))) (g9 := w8.heap.size) (g16 := w11.heap.size) (g17 := w12.heap.size) (g18 := w13.heap.size) (v9 := vx) (v16 := vl) (v17 := vr) (v18 := vn) (by assumption) f2))
  all_goals
    have hend := hx15.trans (J4.ext (wr := (w13.alloc (.cells #[.pointer vn] 26))) (g9 := w8.heap.size) (g16 := w11.heap.size) (g17 := w12.heap.size) (g18 := w13.heap.size) (v9 := vx) (v16 := vl) (v17 := vr) (v18 := vn) (by assumption))
    go_wp2_with fail
    go_ret
    exact ⟨rfl, hend⟩
end Go.Proofs.Ythljopjpjjaadaa
