/-
  rope.Put at whatever numbers.
-/
import Derived.Test.YthljopjpjjaadaaRopeZ
namespace Go.Proofs.Ythljopjpjjaadaa
open Go.RowKit
set_option linter.unusedVariables false
set_option linter.unusedSimpArgs false

set_option maxHeartbeats 4000000 in
theorem put_neg {t o : Tr} {a b : Option Addr} {f g : Int} {w : World} (h : TreeAt w a t) (hk : f < 0 ∨ g < f) :
    Calls Try.prog 20 #[.agg #[.pointer a], .int .i64 f, .int .i64 g, .agg #[.pointer b]] w fun e w' => e = .returned (.tuple #[.agg #[.pointer none], .int .i64 1]) ∧ Ext w w' := by
  have hx : Ext w (((w.alloc (.cells #[.pointer a] 26)).alloc (.cells #[.pointer b] 26)).alloc (.cells #[.pointer none] 26)) := ((Ext.alloc _ _).to_alloc _).to_alloc _
  have hb2 := Blk.new ((w.alloc (.cells #[.pointer a] 26)).alloc (.cells #[.pointer b] 26)) 26 #[.pointer none]
  rw [show ((w.alloc (.cells #[.pointer a] 26)).alloc (.cells #[.pointer b] 26)).heap.size = w.heap.size + 2 by simp] at hb2
  clear h
  by_cases h0 : f < 0
  · clear hk
    go_enter Try.func20, Try.ntmps20
    go_wp2_with fail
    have c1 := hb2.cell 0
    simp only [List.getElem?_toArray, List.getElem?_cons_zero, List.getElem?_cons_succ] at c1
    refine bodyPost_ret (by simp [results, Try.results20, go_sem, c1]; try rfl) rfl ?_
    exact ⟨rfl, hx⟩
  · have h1 : g < f := by omega
    clear hk
    go_enter Try.func20, Try.ntmps20
    go_wp2_with fail
    have c1 := hb2.cell 0
    simp only [List.getElem?_toArray, List.getElem?_cons_zero, List.getElem?_cons_succ] at c1
    refine bodyPost_ret (by simp [results, Try.results20, go_sem, c1]; try rfl) rfl ?_
    exact ⟨rfl, hx⟩

set_option maxRecDepth 20000 in
set_option maxHeartbeats 8000000 in
theorem put_far {t o : Tr} {a b : Option Addr} {f g : Int} {w : World} (h : TreeAt w a t) (ho : TreeAt w b o) (hz : t.sz ≤ 4096) (hb : t.bal) (hz2 : o.sz ≤ 4096) (hbo : o.bal) (h0 : 0 ≤ f) (h1 : f ≤ g) :
    Calls Try.prog 20 #[.agg #[.pointer a], .int .i64 f, .int .i64 g, .agg #[.pointer b]] w fun e w' => ∃ v z, e = .returned (.tuple #[.agg #[.pointer v], .int .i64 z]) ∧ Ext w w' := by
  obtain ⟨f, rfl⟩ := Int.eq_ofNat_of_zero_le h0
  obtain ⟨g, rfl⟩ := Int.eq_ofNat_of_zero_le (show 0 ≤ g by omega)
  have hfg : f ≤ g := by omega
  have hx : Ext w (((w.alloc (.cells #[.pointer a] 26)).alloc (.cells #[.pointer b] 26)).alloc (.cells #[.pointer none] 26)) := ((Ext.alloc _ _).to_alloc _).to_alloc _
  have hb0 := ((Blk.new w 26 #[.pointer a]).ext (Ext.alloc _ (.cells #[.pointer b] 26))).ext (Ext.alloc _ (.cells #[.pointer none] 26))
  have hb1 := (Blk.new (w.alloc (.cells #[.pointer a] 26)) 26 #[.pointer b]).ext (Ext.alloc _ (.cells #[.pointer none] 26))
  have hb2 := Blk.new ((w.alloc (.cells #[.pointer a] 26)).alloc (.cells #[.pointer b] 26)) 26 #[.pointer none]
  rw [show (w.alloc (.cells #[.pointer a] 26)).heap.size = w.heap.size + 1 by simp] at hb1
  rw [show ((w.alloc (.cells #[.pointer a] 26)).alloc (.cells #[.pointer b] 26)).heap.size = w.heap.size + 2 by simp] at hb2
  have HL := Lib.hid (len_ok (TreeAt.ext hx h))
  have HT := Lib.hid (TreeAt.ext hx h)
  have HO := Lib.hid (TreeAt.ext hx ho)
  have HZ := Lib.hid (And.intro hz (And.intro hb (And.intro hz2 hbo)))
  have k0 := hb0.cell 0
  simp only [List.getElem?_toArray, List.getElem?_cons_zero, List.getElem?_cons_succ] at k0
  clear h hz hb h0 h1 ho hz2 hbo
  go_enter Try.func20, Try.ntmps20
  go_wp2_with fail
  refine HL.out.mono ?_
  rintro e w2 ⟨rfl, hy⟩
  have hq0 := hb0.ext hy
  have hq1 := hb1.ext hy
  have hq2 := hb2.ext hy
  have hxw := hx.trans hy
  have f2 := hq2.frozen 0
  have c2 := hq2.cell 0
  have k1 := hq0.cell 0
  have k2 := hq1.cell 0
  simp only [List.getElem?_toArray, List.getElem?_cons_zero, List.getElem?_cons_succ] at c2 k1 k2
  have HT2 := Lib.hid (TreeAt.ext hy HT.out)
  have HO2 := Lib.hid (TreeAt.ext hy HO.out)
  clear HL hb0 hb1 hb2 hx k0 HT HO hy
  by_cases hfar : t.sz < g
  · have hfar2 : (t.sz : Int) < (g : Int) := by omega
    have hend : Ext w (w2.setCell ⟨w.heap.size + 2, 0, none⟩ (.pointer none)) := hxw.setCell (Nat.le_add_right _ 2) _
    have hc1 : (w2.setCell ⟨w.heap.size + 2, 0, none⟩ (.pointer none)).cell? ⟨w.heap.size + 2, 0, none⟩ = some (.pointer none) := by
      have := (hq2.set_ 0 (.pointer none)).cell 0
      simpa using this
    clear hq0 hq1 hq2 k1 k2
    go_wp2_with fail
    refine bodyPost_ret (by simp [results, Try.results20, go_sem, hc1]; try rfl) rfl ?_
    exact ⟨none, 1, rfl, hend⟩
  have hfar2 : ¬ (t.sz : Int) < (g : Int) := by omega
  have Hsz : Hid (t.sz ≤ 4096 ∧ o.sz ≤ 4096 ∧ f ≤ g ∧ g ≤ t.sz) := Lib.hid ⟨HZ.out.1, HZ.out.2.2.1, hfg, by omega⟩
  obtain ⟨x1, hx1⟩ : ∃ x, x = g - f := ⟨_, rfl⟩
  obtain ⟨x2, hx2⟩ : ∃ x, x = t.sz - x1 := ⟨_, rfl⟩
  obtain ⟨x3, hx3⟩ : ∃ x, x = 4096 - o.sz := ⟨_, rfl⟩
  obtain ⟨s1, s2, s3, s4⟩ := Hsz.out
  have hw1 : IntKind.i64.wrap ((g : Int) - (f : Int)) = (x1 : Int) := by rw [IntWalk.i64_in _ (by omega)]; omega
  have hw2 : IntKind.i64.wrap ((t.sz : Int) - (x1 : Int)) = (x2 : Int) := by rw [IntWalk.i64_in _ (by omega)]; omega
  have hw3 : IntKind.i64.wrap ((4096 : Int) - (o.sz : Int)) = (x3 : Int) := by rw [IntWalk.i64_in _ (by omega)]; omega
  have hxd := Ext.drew w2
  have H1 : Hid (∀ (w1 : World) (a' : Option Addr), a' = a → Ext w2.drew w1 → Calls Try.prog 13 #[.agg #[.pointer a']] w1 fun e w' => e = .returned (.int .i64 t.sz) ∧ Ext w1 w') :=
    Lib.hid (fun w1 a' hq he => by rw [hq]; exact len_ok (TreeAt.ext (hxd.trans he) HT2.out))
  have H2 : Hid (∀ (w1 : World) (a' : Option Addr), a' = b → Ext w2.drew w1 → Calls Try.prog 13 #[.agg #[.pointer a']] w1 fun e w' => e = .returned (.int .i64 o.sz) ∧ Ext w1 w') :=
    Lib.hid (fun w1 a' hq he => by rw [hq]; exact len_ok (TreeAt.ext (hxd.trans he) HO2.out))
  have HX := Lib.hid (And.intro hx1 (And.intro hx2 hx3))
  have HQ0 := Lib.hid hq0
  have HQ1 := Lib.hid hq1
  have HQ2 := Lib.hid hq2
  clear hx1 hx2 hx3 s1 s2 s3 s4 hq0 hq1 hq2 c2 f2
  by_cases hbig : x3 < x2
  · have hb1 : decide ((x3 : Int) < (x2 : Int)) = true := by simp; omega
    have hb2 : (x3 : Int) < (x2 : Int) := by omega
    go_wp2_with fail
    go_region_held3 (fun w' => w'.cell? ⟨w.heap.size, 0, none⟩ = some (.pointer a) ∧ w'.cell? ⟨w.heap.size + 1, 0, none⟩ = some (.pointer b)) (first | go_keep | (exact ⟨Ext.cell (by assumption) (by first | assumption | exact And.left (by assumption)), Ext.cell (by assumption) (by first | assumption | exact And.right (by assumption))⟩)) (first
      | (go_at_call 13
         first
           | (refine (H1.out _ _ (by with_reducible rfl) (by first | exact Ext.refl _ | assumption)).mono ?_
              rintro e wa ⟨rfl, hea⟩)
           | (refine (H2.out _ _ (by with_reducible rfl) (by first | exact Ext.refl _ | assumption)).mono ?_
              rintro e wb ⟨rfl, heb⟩)))
    all_goals
      have hyb : Ext w2 wb := by first | exact hxd.trans (hea.trans heb) | exact hxd.trans heb
      skip
    have hq2 := HQ2.out.ext hyb
    have hxw2 := hxw.trans hyb
    have f2 := hq2.frozen 0
    have c2 := hq2.cell 0
    simp only [List.getElem?_toArray, List.getElem?_cons_zero, List.getElem?_cons_succ] at c2
    have hend : Ext w (wb.setCell ⟨w.heap.size + 2, 0, none⟩ (.pointer none)) := hxw2.setCell (Nat.le_add_right _ 2) _
    have hc1 : (wb.setCell ⟨w.heap.size + 2, 0, none⟩ (.pointer none)).cell? ⟨w.heap.size + 2, 0, none⟩ = some (.pointer none) := by
      have := (hq2.set_ 0 (.pointer none)).cell 0
      simpa using this
    clear H1 H2 hw1 hw2 hw3 hb1 hb2 hea heb hyb k1 k2 hq2
    go_wp2_with fail
    refine bodyPost_ret (by simp [results, Try.results20, go_sem, hc1]; try rfl) rfl ?_
    exact ⟨none, 2, rfl, hend⟩
  · have hb1 : decide ((x3 : Int) < (x2 : Int)) = false := by simp; omega
    have hb2 : ¬ (x3 : Int) < (x2 : Int) := by omega
    go_wp2_with fail
    go_region_held3 (fun w' => w'.cell? ⟨w.heap.size, 0, none⟩ = some (.pointer a) ∧ w'.cell? ⟨w.heap.size + 1, 0, none⟩ = some (.pointer b)) (first | go_keep | (exact ⟨Ext.cell (by assumption) (by first | assumption | exact And.left (by assumption)), Ext.cell (by assumption) (by first | assumption | exact And.right (by assumption))⟩)) (first
      | (go_at_call 13
         first
           | (refine (H1.out _ _ (by with_reducible rfl) (by first | exact Ext.refl _ | assumption)).mono ?_
              rintro e wa ⟨rfl, hea⟩)
           | (refine (H2.out _ _ (by with_reducible rfl) (by first | exact Ext.refl _ | assumption)).mono ?_
              rintro e wb ⟨rfl, heb⟩)))
    all_goals
      have hyb : Ext w2 wb := by first | exact hxd.trans (hea.trans heb) | exact hxd.trans heb
      skip
    have k3 := hyb.cell k1
    have k4 := hyb.cell k2
    have HS1 := Lib.hid (split_ok t f a wb (TreeAt.ext hyb HT2.out) (by have := Hsz.out; omega) HZ.out.2.1 (by have := Hsz.out; omega))
    obtain ⟨ba, bb, _, _⟩ := Tr.split_spec (k := f) HZ.out.2.1
    obtain ⟨qa, qb⟩ := split_sz (k := f) HZ.out.2.1
    have HB1 := Lib.hid (And.intro ba (show (t.split f).1.sz ≤ 4096 by have := Hsz.out; omega))
    obtain ⟨ba2, bb2, _, _⟩ := Tr.split_spec (k := g) HZ.out.2.1
    obtain ⟨qa2, qb2⟩ := split_sz (k := g) HZ.out.2.1
    have HB2 := Lib.hid (And.intro bb2 (show (t.split g).2.sz ≤ 4096 by have := Hsz.out; omega))
    clear H1 H2 hw1 hw2 hw3 hb1 hb2 hea heb k1 k2 ba bb qa qb ba2 bb2 qa2 qb2
    go_wp2_with fail
    refine HS1.out.mono ?_
    rintro e w5 ⟨v1, v2, rfl, t1, _, he5⟩
    have k5 := he5.cell k3
    have k6 := he5.cell k4
    have HS2 := Lib.hid (split_ok t g a w5 (TreeAt.ext (hyb.trans he5) HT2.out) (by have := Hsz.out; omega) HZ.out.2.1 (by have := Hsz.out; omega))
    have HT1 := Lib.hid t1
    clear HS1 k3 k4 t1
    go_wp2_with fail
    refine HS2.out.mono ?_
    rintro e w6 ⟨v3, v4, rfl, _, t4, he6⟩
    have k7 := he6.cell k5
    have k8 := he6.cell k6
    have hf := (hyb.trans he5).trans he6
    have HC1 := Lib.hid (concat_ok (TreeAt.ext he6 HT1.out) (TreeAt.ext hf HO2.out) (by have := HB1.out.2; have := Hsz.out; omega) HB1.out.1 HZ.out.2.2.2)
    have HBC := Lib.hid (And.intro (Tr.concat_spec HB1.out.1 HZ.out.2.2.2).1 (concat_sz HB1.out.1 HZ.out.2.2.2))
    have HT4 := Lib.hid t4
    clear HS2 k5 k6 t4 he5 he6 HT1
    generalize (t.split f).1 = T1 at *
    generalize (t.split g).2 = T2 at *
    generalize Tr.concat T1 o = T3 at *
    go_wp2_with fail
    refine HC1.out.mono ?_
    rintro e w7 ⟨v5, rfl, t5, he7⟩
    have HC2 := Lib.hid (concat_ok t5 (TreeAt.ext he7 HT4.out) (by have h1 := HBC.out.2; have h2 := HB1.out.2; have h3 := HB2.out.2; have h4 := Hsz.out; omega) HBC.out.1 HB2.out.1)
    have hf2 := hf.trans he7
    clear HC1 t5 k7 k8 hf he7
    go_wp2_with fail
    refine HC2.out.mono ?_
    rintro e w8 ⟨v6, rfl, _, he8⟩
    have hyc := hf2.trans he8
    have hq2 := HQ2.out.ext hyc
    have hxw2 := hxw.trans hyc
    have f2 := hq2.frozen 0
    have c2 := hq2.cell 0
    simp only [List.getElem?_toArray, List.getElem?_cons_zero, List.getElem?_cons_succ] at c2
    have hend : Ext w (w8.setCell ⟨w.heap.size + 2, 0, none⟩ (.pointer v6)) := hxw2.setCell (Nat.le_add_right _ 2) _
    have hc1 : (w8.setCell ⟨w.heap.size + 2, 0, none⟩ (.pointer v6)).cell? ⟨w.heap.size + 2, 0, none⟩ = some (.pointer v6) := by
      have := (hq2.set_ 0 (.pointer v6)).cell 0
      simpa using this
    clear HC2 hq2 hf2 he8 hyc
    go_wp2_with fail
    refine bodyPost_ret (by simp [results, Try.results20, go_sem, hc1]; try rfl) rfl ?_
    exact ⟨v6, 0, rfl, hend⟩
/-- Put, at whatever places. -/
theorem putR_any {t o : Tr} {a b : Option Addr} {f g : Int} {w : World} (h : TreeAt w a t) (ho : TreeAt w b o) (hz : t.sz ≤ 4096) (hb : t.bal) (hz2 : o.sz ≤ 4096) (hbo : o.bal) :
    Calls Try.prog 20 #[.agg #[.pointer a], .int .i64 f, .int .i64 g, .agg #[.pointer b]] w fun e w' => ∃ v z, e = .returned (.tuple #[.agg #[.pointer v], .int .i64 z]) ∧ Ext w w' := by
  by_cases h0 : f < 0 ∨ g < f
  · exact (put_neg (o := o) h h0).mono fun e w' ⟨h2, h3⟩ => ⟨none, 1, h2, h3⟩
  · exact put_far h ho hz hb hz2 hbo (by omega) (by omega)
end Go.Proofs.Ythljopjpjjaadaa
