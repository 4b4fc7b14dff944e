/-
  rope.Split, Slice, Put at whatever numbers.
-/
import Derived.Test.YthljopjpjjaadaaRopeY
namespace Go.Proofs.Ythljopjpjjaadaa
open Go.RowKit
set_option linter.unusedVariables false
set_option linter.unusedSimpArgs false

set_option maxHeartbeats 4000000 in
theorem split_neg {t : Tr} {a : Option Addr} {k : Int} {w : World} (h : TreeAt w a t) (hk : k < 0) :
    Calls Try.prog 14 #[.agg #[.pointer a], .int .i64 k] w fun e w' => e = .returned (.tuple #[.agg #[.pointer none], .agg #[.pointer none], .int .i64 1]) ∧ Ext w w' := by
  have hx : Ext w (((w.alloc (.cells #[.pointer a] 26)).alloc (.cells #[.pointer none] 26)).alloc (.cells #[.pointer none] 26)) := ((Ext.alloc _ _).to_alloc _).to_alloc _
  have hb1 := (Blk.new (w.alloc (.cells #[.pointer a] 26)) 26 #[.pointer none]).ext (Ext.alloc _ (.cells #[.pointer none] 26))
  have hb2 := Blk.new ((w.alloc (.cells #[.pointer a] 26)).alloc (.cells #[.pointer none] 26)) 26 #[.pointer none]
  rw [show (w.alloc (.cells #[.pointer a] 26)).heap.size = w.heap.size + 1 by simp] at hb1
  rw [show ((w.alloc (.cells #[.pointer a] 26)).alloc (.cells #[.pointer none] 26)).heap.size = w.heap.size + 2 by simp] at hb2
  clear h
  go_enter Try.func14, Try.ntmps14
  go_wp2_with fail
  have c1 := hb1.cell 0
  have c2 := hb2.cell 0
  simp only [List.getElem?_toArray, List.getElem?_cons_zero, List.getElem?_cons_succ] at c1 c2
  refine bodyPost_ret (by simp [results, Try.results14, go_sem, c1, c2]; try rfl) rfl ?_
  exact ⟨rfl, hx⟩

set_option maxHeartbeats 4000000 in
theorem split_big {t : Tr} {a : Option Addr} {k : Int} {w : World} (h : TreeAt w a t) (hk0 : 0 ≤ k) (hk : (t.sz : Int) < k) :
    Calls Try.prog 14 #[.agg #[.pointer a], .int .i64 k] w fun e w' => e = .returned (.tuple #[.agg #[.pointer none], .agg #[.pointer none], .int .i64 1]) ∧ Ext w w' := by
  have hx : Ext w (((w.alloc (.cells #[.pointer a] 26)).alloc (.cells #[.pointer none] 26)).alloc (.cells #[.pointer none] 26)) := ((Ext.alloc _ _).to_alloc _).to_alloc _
  have hb0 := ((Blk.new w 26 #[.pointer a]).ext (Ext.alloc _ (.cells #[.pointer none] 26))).ext (Ext.alloc _ (.cells #[.pointer none] 26))
  have hb1 := (Blk.new (w.alloc (.cells #[.pointer a] 26)) 26 #[.pointer none]).ext (Ext.alloc _ (.cells #[.pointer none] 26))
  have hb2 := Blk.new ((w.alloc (.cells #[.pointer a] 26)).alloc (.cells #[.pointer none] 26)) 26 #[.pointer none]
  rw [show (w.alloc (.cells #[.pointer a] 26)).heap.size = w.heap.size + 1 by simp] at hb1
  rw [show ((w.alloc (.cells #[.pointer a] 26)).alloc (.cells #[.pointer none] 26)).heap.size = w.heap.size + 2 by simp] at hb2
  have HL := Lib.hid (len_ok (TreeAt.ext hx h))
  have k0 := hb0.cell 0
  simp only [List.getElem?_toArray, List.getElem?_cons_zero, List.getElem?_cons_succ] at k0
  clear h
  go_enter Try.func14, Try.ntmps14
  go_wp2_with fail
  refine HL.out.mono ?_
  rintro e w2 ⟨rfl, hy⟩
  have hq1 := hb1.ext hy
  have hq2 := hb2.ext hy
  have hxw := hx.trans hy
  have f1 := hq1.frozen 0
  have f2 := hq2.frozen 0
  have c1 := hq1.cell 0
  have c2 := hq2.cell 0
  simp only [List.getElem?_toArray, List.getElem?_cons_zero, List.getElem?_cons_succ] at c1 c2
  have n1 : ¬ w.heap.size + 1 = w.heap.size + 2 := by omega
  have n2 : ¬ w.heap.size + 2 = w.heap.size + 1 := by omega
  have hq2' := hq2.setNe (p := ⟨w.heap.size + 1, 0, none⟩) n1 (.pointer none)
  have hend : Ext w ((w2.setCell ⟨w.heap.size + 1, 0, none⟩ (.pointer none)).setCell ⟨w.heap.size + 2, 0, none⟩ (.pointer none)) := (hxw.setCell (Nat.le_succ _) _).setCell (Nat.le_add_right _ 2) _
  have hc1 : ((w2.setCell ⟨w.heap.size + 1, 0, none⟩ (.pointer none)).setCell ⟨w.heap.size + 2, 0, none⟩ (.pointer none)).cell? ⟨w.heap.size + 1, 0, none⟩ = some (.pointer none) := by
    have := ((hq1.set_ 0 (.pointer none)).setNe (p := ⟨w.heap.size + 2, 0, none⟩) n2 (.pointer none)).cell 0
    simpa using this
  have hc2 : ((w2.setCell ⟨w.heap.size + 1, 0, none⟩ (.pointer none)).setCell ⟨w.heap.size + 2, 0, none⟩ (.pointer none)).cell? ⟨w.heap.size + 2, 0, none⟩ = some (.pointer none) := by
    have := (hq2'.set_ 0 (.pointer none)).cell 0
    simpa using this
  clear HL hb0 hb1 hb2 hx k0 hq1 hq2 hq2' hy
  go_wp2_with fail
  refine bodyPost_ret (by simp [results, Try.results14, go_sem, hc1, hc2]; try rfl) rfl ?_
  exact ⟨rfl, hend⟩
/-- Split, at whatever place. -/
theorem splitR_any {t : Tr} {a : Option Addr} {k : Int} {w : World} (h : TreeAt w a t) (hz : t.sz ≤ 4096) (hb : t.bal) :
    Calls Try.prog 14 #[.agg #[.pointer a], .int .i64 k] w fun e w' => ∃ v1 v2 z T1 T2, e = .returned (.tuple #[.agg #[.pointer v1], .agg #[.pointer v2], .int .i64 z]) ∧ TreeAt w' v1 T1 ∧ TreeAt w' v2 T2 ∧ T1.bal ∧ T2.bal ∧ T1.sz ≤ 4096 ∧ T2.sz ≤ 4096 ∧ Ext w w' := by
  by_cases h0 : 0 ≤ k
  · by_cases h1 : (t.sz : Int) < k
    · exact (split_big h h0 h1).mono fun e w' ⟨h2, h3⟩ => ⟨none, none, 1, .nil, .nil, h2, rfl, rfl, trivial, trivial, by simp [Tr.sz], by simp [Tr.sz], h3⟩
    · obtain ⟨k, rfl⟩ := Int.eq_ofNat_of_zero_le h0
      obtain ⟨ba, bb, _, _⟩ := Tr.split_spec (k := k) hb
      obtain ⟨qa, qb⟩ := split_sz (k := k) hb
      exact (splitR_ok h hz hb (by omega)).mono fun e w' ⟨v1, v2, h2, h3, h4, h5⟩ => ⟨v1, v2, 0, _, _, h2, h3, h4, ba, bb, by omega, by omega, h5⟩
  · exact (split_neg h (by omega)).mono fun e w' ⟨h2, h3⟩ => ⟨none, none, 1, .nil, .nil, h2, rfl, rfl, trivial, trivial, by simp [Tr.sz], by simp [Tr.sz], h3⟩

set_option maxHeartbeats 4000000 in
theorem slice_neg {t : Tr} {a : Option Addr} {f g : Int} {w : World} (h : TreeAt w a t) (hk : f < 0 ∨ g < f) :
    Calls Try.prog 21 #[.agg #[.pointer a], .int .i64 f, .int .i64 g] w fun e w' => e = .returned (.tuple #[.agg #[.pointer none], .int .i64 1]) ∧ Ext w w' := by
  have hx : Ext w ((w.alloc (.cells #[.pointer a] 26)).alloc (.cells #[.pointer none] 26)) := (Ext.alloc _ _).to_alloc _
  have hb1 := Blk.new (w.alloc (.cells #[.pointer a] 26)) 26 #[.pointer none]
  rw [show (w.alloc (.cells #[.pointer a] 26)).heap.size = w.heap.size + 1 by simp] at hb1
  clear h
  by_cases h0 : f < 0
  · clear hk
    go_enter Try.func21, Try.ntmps21
    go_wp2_with fail
    have c1 := hb1.cell 0
    simp only [List.getElem?_toArray, List.getElem?_cons_zero, List.getElem?_cons_succ] at c1
    refine bodyPost_ret (by simp [results, Try.results21, go_sem, c1]; try rfl) rfl ?_
    exact ⟨rfl, hx⟩
  · have h1 : g < f := by omega
    clear hk
    go_enter Try.func21, Try.ntmps21
    go_wp2_with fail
    have c1 := hb1.cell 0
    simp only [List.getElem?_toArray, List.getElem?_cons_zero, List.getElem?_cons_succ] at c1
    refine bodyPost_ret (by simp [results, Try.results21, go_sem, c1]; try rfl) rfl ?_
    exact ⟨rfl, hx⟩

set_option maxHeartbeats 4000000 in
theorem slice_far {t : Tr} {a : Option Addr} {f g : Int} {w : World} (h : TreeAt w a t) (hz : t.sz ≤ 4096) (hb : t.bal) (h0 : 0 ≤ f) (h1 : f ≤ g) :
    Calls Try.prog 21 #[.agg #[.pointer a], .int .i64 f, .int .i64 g] w fun e w' => ∃ v z T, e = .returned (.tuple #[.agg #[.pointer v], .int .i64 z]) ∧ TreeAt w' v T ∧ T.bal ∧ T.sz ≤ 4096 ∧ Ext w w' := by
  obtain ⟨f, rfl⟩ := Int.eq_ofNat_of_zero_le h0
  obtain ⟨g, rfl⟩ := Int.eq_ofNat_of_zero_le (show 0 ≤ g by omega)
  have hfg : f ≤ g := by omega
  have hx : Ext w ((w.alloc (.cells #[.pointer a] 26)).alloc (.cells #[.pointer none] 26)) := (Ext.alloc _ _).to_alloc _
  have hb0 := (Blk.new w 26 #[.pointer a]).ext (Ext.alloc _ (.cells #[.pointer none] 26))
  have hb1 := Blk.new (w.alloc (.cells #[.pointer a] 26)) 26 #[.pointer none]
  rw [show (w.alloc (.cells #[.pointer a] 26)).heap.size = w.heap.size + 1 by simp] at hb1
  have HL := Lib.hid (len_ok (TreeAt.ext hx h))
  have HT := Lib.hid (TreeAt.ext hx h)
  have HZ := Lib.hid (And.intro hz hb)
  have k0 := hb0.cell 0
  simp only [List.getElem?_toArray, List.getElem?_cons_zero, List.getElem?_cons_succ] at k0
  clear h hz hb h0 h1
  go_enter Try.func21, Try.ntmps21
  go_wp2_with fail
  refine HL.out.mono ?_
  rintro e w2 ⟨rfl, hy⟩
  have hq1 := hb1.ext hy
  have hxw := hx.trans hy
  have f1 := hq1.frozen 0
  have c1 := hq1.cell 0
  have k1 := hy.cell k0
  simp only [List.getElem?_toArray, List.getElem?_cons_zero, List.getElem?_cons_succ] at c1
  by_cases hfar : t.sz < g
  · have hfar2 : (t.sz : Int) < (g : Int) := by omega
    have hend : Ext w (w2.setCell ⟨w.heap.size + 1, 0, none⟩ (.pointer none)) := hxw.setCell (Nat.le_succ _) _
    have hc1 : (w2.setCell ⟨w.heap.size + 1, 0, none⟩ (.pointer none)).cell? ⟨w.heap.size + 1, 0, none⟩ = some (.pointer none) := by
      have := (hq1.set_ 0 (.pointer none)).cell 0
      simpa using this
    clear HL hb0 hb1 hx k0 hq1 hy k1
    go_wp2_with fail
    refine bodyPost_ret (by simp [results, Try.results21, go_sem, hc1]; try rfl) rfl ?_
    exact ⟨none, 1, .nil, rfl, rfl, trivial, by simp [Tr.sz], hend⟩
  · have hfar2 : ¬ (t.sz : Int) < (g : Int) := by omega
    have HS := Lib.hid (split_ok t g a w2 (TreeAt.ext hy HT.out) (by have := HZ.out.1; omega) HZ.out.2 (by have := HZ.out.1; omega))
    have HQ := Lib.hid hq1
    have Hg : Hid (g ≤ 4096) := Lib.hid (by have := HZ.out.1; omega)
    obtain ⟨ba, bb, _, _⟩ := Tr.split_spec (k := g) HZ.out.2
    obtain ⟨qa, qb⟩ := split_sz (k := g) HZ.out.2
    have HB2 := Lib.hid (And.intro ba (show (t.split g).1.sz ≤ 4096 by have := HZ.out.1; omega))
    clear HL hb0 hb1 hx k0 hq1 c1 f1 ba bb qa qb
    go_wp2_with fail
    refine HS.out.mono ?_
    rintro e w3 ⟨v1, v2, rfl, t1, t2, he3⟩
    have HS2 := Lib.hid (split_ok (t.split g).1 f v1 w3 t1 (by have := HB2.out.2; omega) HB2.out.1 (by have := Hg.out; omega))
    obtain ⟨ba, bb, _, _⟩ := Tr.split_spec (k := f) HB2.out.1
    obtain ⟨qa, qb⟩ := split_sz (k := f) HB2.out.1
    have HB3 := Lib.hid (And.intro bb (show ((t.split g).1.split f).2.sz ≤ 4096 by have := HB2.out.2; omega))
    clear HS t1 t2 ba bb qa qb
    generalize ((t.split g).1.split f).1 = T1 at *
    generalize ((t.split g).1.split f).2 = T2 at *
    go_wp2_with fail
    refine HS2.out.mono ?_
    rintro e w4 ⟨v3, v4, rfl, t3, t4, he4⟩
    have hq2 := (HQ.out.ext he3).ext he4
    have hxw2 := (hxw.trans he3).trans he4
    have f1 := hq2.frozen 0
    have c1 := hq2.cell 0
    simp only [List.getElem?_toArray, List.getElem?_cons_zero, List.getElem?_cons_succ] at c1
    have hend : Ext w (w4.setCell ⟨w.heap.size + 1, 0, none⟩ (.pointer v4)) := hxw2.setCell (Nat.le_succ _) _
    have hc1 : (w4.setCell ⟨w.heap.size + 1, 0, none⟩ (.pointer v4)).cell? ⟨w.heap.size + 1, 0, none⟩ = some (.pointer v4) := by
      have := (hq2.set_ 0 (.pointer v4)).cell 0
      simpa using this
    have u4 := Lib.hid (TreeAt.slot (u := .pointer v4) (by decide) hq2 t4)
    clear HS2 hq2 hxw2 hxw he3 he4 k1 t3 t4 hy
    go_wp2_with fail
    refine bodyPost_ret (by simp [results, Try.results21, go_sem, hc1]; try rfl) rfl ?_
    exact ⟨v4, 0, T2, rfl, u4.out, HB3.out.1, HB3.out.2, hend⟩
/-- Slice, at whatever places. -/
theorem sliceR_any {t : Tr} {a : Option Addr} {f g : Int} {w : World} (h : TreeAt w a t) (hz : t.sz ≤ 4096) (hb : t.bal) :
    Calls Try.prog 21 #[.agg #[.pointer a], .int .i64 f, .int .i64 g] w fun e w' => ∃ v z T, e = .returned (.tuple #[.agg #[.pointer v], .int .i64 z]) ∧ TreeAt w' v T ∧ T.bal ∧ T.sz ≤ 4096 ∧ Ext w w' := by
  by_cases h0 : f < 0 ∨ g < f
  · exact (slice_neg h h0).mono fun e w' ⟨h2, h3⟩ => ⟨none, 1, .nil, h2, rfl, trivial, by simp [Tr.sz], h3⟩
  · exact slice_far h hz hb (by omega) (by omega)
end Go.Proofs.Ythljopjpjjaadaa
