/-
  The walk of RopeOld.
-/
import Derived.Test.YthljopjpjjaadaaRopeG
namespace Go.Proofs.Ythljopjpjjaadaa
open Go.RowKit
set_option linter.unusedVariables false
set_option linter.unusedSimpArgs false

theorem lit7 : (ropF [7]).sz = 1 ∧ (ropF [7]).toL = [7] := rop_sz (by decide)
def J2 (wr : World) (g1 g2 : Nat) (v1 v2 : Option Addr) (w' : World) : Prop := w'.cell? ⟨g1, 0, none⟩ = some (.pointer v1) ∧ w'.cell? ⟨g2, 0, none⟩ = some (.pointer v2) ∧ Ext wr w'
theorem J2.ext {wr w' : World} {g1 g2 : Nat} {v1 v2 : Option Addr} (h : J2 wr g1 g2 v1 v2 w') : Ext wr w' := h.2.2
theorem J2.call {wr w' w2 : World} {g1 g2 : Nat} {v1 v2 : Option Addr} (h : J2 wr g1 g2 v1 v2 w') (he : Ext w' w2) : J2 wr g1 g2 v1 v2 w2 := ⟨he.cell h.1, he.cell h.2.1, h.2.2.trans he⟩

set_option maxRecDepth 100000 in
set_option maxHeartbeats 40000000 in
theorem ropeOld_walk {l m : List Int} {f g : Int} {A B : Option Addr} {n q d1 d2 : Nat} {w : World} (hl : Ints w A n d1 l) (hm : Ints w B q d2 m) :
    Calls Try.prog 7 #[.slice A n d1, .slice B q d2, .int .i64 f, .int .i64 g] w fun e w' => e = .returned (.bool true) ∧ Ext w w' := by
  have HO := Lib.hid (of_any hl)
  have HL := Lib.hid hl
  have HM := Lib.hid hm
  clear hl hm
  go_enter Try.func7, Try.ntmps7
  go_wp2_with fail
  refine HO.out.mono ?_
  rintro e w1 ⟨v9, rfl, t9, he1⟩
  have r9 := RB.new t9
  have hx1 := he1.trans (Ext.alloc w1 (.cells #[.pointer v9] 26))
  clear HO t9 he1
  have c9 := r9.1
  have R9 := Lib.hid r9
  clear r9
  have hI : Ints ((w1.alloc (.cells #[.pointer v9] 26)).alloc (.cells #[.int .i64 7] 3)) (some ⟨w1.heap.size + 1, 0, none⟩) 1 1 [7] := by
    have := Blk.ints (l := [7]) (Blk.new (w1.alloc (.cells #[.pointer v9] 26)) 3 #[.int .i64 7]) rfl (by decide)
    simpa using this
  have ex := Ext.alloc (w1.alloc (.cells #[.pointer v9] 26)) (.cells #[.int .i64 7] 3)
  have HR := Lib.hid (roped_any hI)
  have hx2 := hx1.trans ex
  clear hI hx1
  go_wp2_with fail
  refine HR.out.mono ?_
  rintro e w2 ⟨v11, rfl, t11, he2⟩
  have r11 := RB.new t11
  have hf := (ex.trans he2).trans (Ext.alloc w2 (.cells #[.pointer v11] 26))
  have hx3 := (hx2.trans he2).trans (Ext.alloc w2 (.cells #[.pointer v11] 26))
  have r9 := R9.out.ext hf
  clear R9 c9
  obtain ⟨l71, l72⟩ := lit7
  have HLn := Lib.hid (len_ok r11.2)
  rw [l71] at HLn
  clear HR t11 he2 hf ex hx2
  have c9 := r9.1
  have R9 := Lib.hid r9
  have c11 := r11.1
  have R11 := Lib.hid r11
  clear r9 r11
  go_wp2_with fail
  refine HLn.out.mono ?_
  rintro e w3 ⟨rfl, he3⟩
  have hx4 := hx3.trans he3
  have r9 := R9.out.ext he3
  have r11 := R11.out.ext he3
  clear R9 c9 R11 c11
  have HLi := Lib.hid (list_ok r11.2 (by rw [l71]; decide))
  rw [l71, l72] at HLi
  clear HLn hx3 he3 l71 l72
  have c9 := r9.1
  have R9 := Lib.hid r9
  have c11 := r11.1
  have R11 := Lib.hid r11
  clear r9 r11
  clear R11
  go_wp2_with fail
  refine HLi.out.mono ?_
  rintro e w4 ⟨A4, c4, rfl, o4, he4⟩
  have hI : Ints (w4.alloc (.cells #[.int .i64 7] 3)) (some ⟨w4.heap.size, 0, none⟩) 1 1 [7] := Blk.ints (l := [7]) (Blk.new _ _ _) rfl (by decide)
  have ex := Ext.alloc w4 (.cells #[.int .i64 7] 3)
  have HE := Lib.hid (equal_same (o4.ints.ext ex) hI)
  have hx5 := (hx4.trans he4).trans ex
  have hf := he4.trans ex
  have r9 := R9.out.ext hf
  clear R9 c9
  clear HLi c11 hx4 he4 o4 hI ex hf
  have c9 := r9.1
  have R9 := Lib.hid r9
  clear r9
  go_wp2_with fail
  refine HE.out.mono ?_
  rintro e w5 ⟨rfl, he5⟩
  have hx6 := hx5.trans he5
  have r9 := R9.out.ext he5
  clear R9 c9
  have HO := Lib.hid (of_any (HM.out.ext hx6))
  clear HE hx5 he5
  have c9 := r9.1
  have R9 := Lib.hid r9
  clear r9
  go_wp2_with fail
  refine HO.out.mono ?_
  rintro e w6 ⟨v12, rfl, t12, he6⟩
  have r12 := RB.new t12
  have hf := he6.trans (Ext.alloc w6 (.cells #[.pointer v12] 26))
  have hx7 := hx6.trans hf
  have r9 := R9.out.ext hf
  clear R9 c9
  clear HO t12 he6 hf hx6
  have c9 := r9.1
  have R9 := Lib.hid r9
  have c12 := r12.1
  have R12 := Lib.hid r12
  clear r9 r12
  obtain ⟨b9, s9⟩ := rop_bal l
  obtain ⟨b12, s12⟩ := rop_bal m
  have HT : Hid (errF l = 0 → (ropF l).sz = n ∧ (ropF l).toL = l) := Lib.hid fun h => by
    have hl := HL.out.len
    have : l.length ≤ 4096 := by
      unfold errF at h
      split at h
      · assumption
      · cases h
    have h2 := rop_sz this
    exact ⟨by rw [h2.1, hl], h2.2⟩
  have HU : Hid (errF m = 0 → (ropF m).sz = q ∧ (ropF m).toL = m) := Lib.hid fun h => by
    have hl := HM.out.len
    have : m.length ≤ 4096 := by
      unfold errF at h
      split at h
      · assumption
      · cases h
    have h2 := rop_sz this
    exact ⟨by rw [h2.1, hl], h2.2⟩
  have HB := Lib.hid (And.intro b9 b12)
  clear b9 b12
  generalize ropF l = T9 at *
  generalize ropF m = T12 at *
  generalize errF l = z1 at *
  generalize errF m = z2 at *
  by_cases h1 : z1 = 0
  rotate_left
  · have k1 : (z1 != 0) = true := by simpa using h1
    clear HT HU
    go_wp2_with fail
    go_ret
    exact ⟨rfl, hx7⟩
  by_cases h2 : z2 = 0
  rotate_left
  · subst h1
    have k1 : (z2 != 0) = true := by simpa using h2
    clear HT HU
    go_wp2_with fail
    go_ret
    exact ⟨rfl, hx7⟩
  subst h1 h2
  obtain ⟨n9, l9⟩ := HT.out rfl
  obtain ⟨n12, l12⟩ := HU.out rfl
  have HN := Lib.hid (And.intro (And.intro n9 l9) (And.intro n12 l12))
  clear HT HU n9 l9 n12 l12
  have HP := Lib.hid (putR_any (f := f) (g := g) R9.out.2 R12.out.2 s9 HB.out.1 s12 HB.out.2)
  go_wp2_with fail
  refine HP.out.mono ?_
  rintro e w7 ⟨vp, zp, rfl, he7⟩
  have hx8 := hx7.trans he7
  have r9 := R9.out.ext he7
  have r12 := R12.out.ext he7
  clear R9 c9 R12 c12
  have HJ := Lib.hid (joinR_any r9.2 r12.2 s9 s12 HB.out.1 HB.out.2)
  clear HP hx7 he7
  have c9 := r9.1
  have R9 := Lib.hid r9
  have c12 := r12.1
  have R12 := Lib.hid r12
  clear r9 r12
  go_wp2_with fail
  refine HJ.out.mono ?_
  rintro e w8 ⟨vj, rfl, _, he8⟩
  have hx9 := hx8.trans he8
  have r9 := R9.out.ext he8
  have r12 := R12.out.ext he8
  clear R9 c9 R12 c12
  have HS := Lib.hid (splitR_any (k := g) r9.2 s9 HB.out.1)
  clear HJ hx8 he8
  have c9 := r9.1
  have R9 := Lib.hid r9
  have c12 := r12.1
  have R12 := Lib.hid r12
  clear r9 r12
  go_wp2_with fail
  refine HS.out.mono ?_
  rintro e w9 ⟨va, vb, zs, Ta, Tb, rfl, ta, tb, ba, bb, sa, sb, he9⟩
  obtain ⟨r14, r15, ex⟩ := RB.two ta tb
  have hf := he9.trans ex
  have hx10 := hx9.trans hf
  have r9 := R9.out.ext hf
  have r12 := R12.out.ext hf
  clear R9 c9 R12 c12
  have HJ := Lib.hid (joinR_any r15.2 r14.2 sb sa bb ba)
  clear HS hx9 he9 hf ex ta tb ba bb sa sb
  have c9 := r9.1
  have R9 := Lib.hid r9
  have c12 := r12.1
  have R12 := Lib.hid r12
  have c14 := r14.1
  have R14 := Lib.hid r14
  have c15 := r15.1
  have R15 := Lib.hid r15
  clear r9 r12 r14 r15
  clear R14 R15
  go_wp2_with fail
  refine HJ.out.mono ?_
  rintro e w10 ⟨vk, rfl, _, he10⟩
  have hx11 := hx10.trans he10
  have r9 := R9.out.ext he10
  have r12 := R12.out.ext he10
  clear R9 c9 R12 c12
  have HSl := Lib.hid (sliceR_any (f := f) (g := g) r9.2 s9 HB.out.1)
  clear HJ c14 c15 hx10 he10
  have c9 := r9.1
  have R9 := Lib.hid r9
  have c12 := r12.1
  have R12 := Lib.hid r12
  clear r9 r12
  go_wp2_with fail
  refine HSl.out.mono ?_
  rintro e w11 ⟨v17, z17, T17, rfl, t17, b17, s17, he11⟩
  have r17 := RB.new t17
  have hf := he11.trans (Ext.alloc w11 (.cells #[.pointer v17] 26))
  have hx12 := hx11.trans hf
  have r9 := R9.out.ext hf
  have r12 := R12.out.ext hf
  clear R9 c9 R12 c12
  clear HSl t17 he11 hf hx11
  have c9 := r9.1
  have R9 := Lib.hid r9
  have c12 := r12.1
  have R12 := Lib.hid r12
  have c17 := r17.1
  have R17 := Lib.hid r17
  clear r9 r12 r17
  have hxd := Ext.drew (w11.alloc (.cells #[.pointer v17] 26))
  have HLn : Hid (∀ wq, Ext (w11.alloc (.cells #[.pointer v17] 26)) wq → _) := Lib.hid fun wq he => len_ok (TreeAt.ext he R17.out.2)
  have HP : Hid (∀ wq, Ext (w11.alloc (.cells #[.pointer v17] 26)) wq → _) := Lib.hid fun wq he => putR_any (f := 0) (g := T17.sz) (TreeAt.ext he R17.out.2) (TreeAt.ext he R12.out.2) s17 b17 s12 HB.out.2
  clear b17
  go_wp2_with fail
  go_region_held3 (fun w' => w'.cell? ⟨w11.heap.size, 0, none⟩ = some (.pointer v17) ∧ w'.cell? ⟨w6.heap.size, 0, none⟩ = some (.pointer v12) ∧ Ext (w11.alloc (.cells #[.pointer v17] 26)) w')
    (first | assumption | exact ⟨c17, c12, hxd⟩) (first
    | (go_at_call 13
       refine (HLn.out _ (by first | exact hxd | exact J2.ext (wr := (w11.alloc (.cells #[.pointer v17] 26))) (g1 := w11.heap.size) (g2 := w6.heap.size) (v1 := v17) (v2 := v12) (by assumption))).mono ?_
       rintro e wa ⟨rfl, hea⟩
       have hSa := J2.call (wr := (w11.alloc (.cells #[.pointer v17] 26))) (g1 := w11.heap.size) (g2 := w6.heap.size) (v1 := v17) (v2 := v12) (by assumption) hea)
    | (go_at_call 20
       refine (HP.out _ (by first | exact hxd | exact J2.ext (wr := (w11.alloc (.cells #[.pointer v17] 26))) (g1 := w11.heap.size) (g2 := w6.heap.size) (v1 := v17) (v2 := v12) (by assumption))).mono ?_
       rintro e wb ⟨vq, zq, rfl, heb⟩
       have hSb := J2.call (wr := (w11.alloc (.cells #[.pointer v17] 26))) (g1 := w11.heap.size) (g2 := w6.heap.size) (v1 := v17) (v2 := v12) (by assumption) heb))
  all_goals
    have hf := J2.ext (wr := (w11.alloc (.cells #[.pointer v17] 26))) (g1 := w11.heap.size) (g2 := w6.heap.size) (v1 := v17) (v2 := v12) (by assumption)
    have hx13 := hx12.trans hf
    have r9 := R9.out.ext hf
    have r12 := R12.out.ext hf
    clear R9 R12 R17 c9 c12 c17 HLn HP hx12 hf
    have HLi := Lib.hid (list_ok r9.2 (by omega))
    rw [HN.out.1.1, HN.out.1.2] at HLi
    have c9 := r9.1
    have R12 := Lib.hid r12
    clear r9 r12
    go_wp2_with fail
    refine HLi.out.mono ?_
    rintro e w13 ⟨A5, c5, rfl, o5, he13⟩
    have hx14 := hx13.trans he13
    have HE := Lib.hid (equal_same o5.ints (HL.out.ext hx14))
    have r12 := Lib.hid (R12.out.ext he13)
    clear HLi c9 R12 o5 hx13 he13
    go_wp2_with fail
    refine HE.out.mono ?_
    rintro e w14 ⟨rfl, he14⟩
    have hx15 := hx14.trans he14
    have r12b := r12.out.ext he14
    have HLi := Lib.hid (list_ok r12b.2 (by omega))
    rw [HN.out.2.1, HN.out.2.2] at HLi
    have c12 := r12b.1
    clear HE r12 r12b hx14 he14
    go_wp2_with fail
    refine HLi.out.mono ?_
    rintro e w15 ⟨A6, c6, rfl, o6, he15⟩
    have hx16 := hx15.trans he15
    have HE := Lib.hid (equal_same o6.ints (HM.out.ext hx16))
    clear HLi c12 o6 hx15 he15
    go_wp2_with fail
    refine HE.out.mono ?_
    rintro e w16 ⟨rfl, he16⟩
    have hend := hx16.trans he16
    clear HE hx16 he16
    go_wp2_with fail
    go_ret
    exact ⟨rfl, hend⟩
end Go.Proofs.Ythljopjpjjaadaa
