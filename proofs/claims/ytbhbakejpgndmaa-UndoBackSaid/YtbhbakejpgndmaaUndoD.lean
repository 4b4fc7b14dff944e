/-
  undo.Back, Again, Do at int: the walks.
-/
import Derived.Test.YtbhbakejpgndmaaUndo
namespace Go.Proofs.Ytbhbakejpgndmaa
open Go.RowKit
set_option linter.unusedVariables false
set_option linter.unusedSimpArgs false

/-- A cell in another block is written: the row stays. -/
theorem Own.setNe {w : World} {base e z n c : Nat} {A : Option Addr} {xs : List Value} (h : Own w base e z A n c xs) {p : Addr} (hp : ∀ g, (Value.slice A n c).ownBlock = some g → g ≠ p.block) (u : Value) : Own (w.setCell p u) base e z A n c xs := by
  obtain ⟨h1, h2⟩ := h
  refine ⟨h1, ?_⟩
  rcases h2 with h2 | ⟨g, cap, cur, hv, hb, hg, r⟩
  · exact .inl h2
  · have hne : g ≠ p.block := hp g (by rw [hv]; rfl)
    refine .inr ⟨g, cap, cur, hv, hb, ?_, r⟩
    have : (w.setCell p u).heap[g]? = w.heap[g]? := by
      unfold World.setCell
      simp only [Array.getElem?_modify]
      rw [if_neg (by omega)]
    rw [this]; exact hg
theorem own_ne {w : World} {base n c b : Nat} {A : Option Addr} {l : List Int} (h : OwnI w base A n c l) (hb : w.heap.size ≤ b) : ∀ g, (Value.slice A n c).ownBlock = some g → g ≠ b := fun g hg => by
  have := Own.blk h g hg; omega
theorem hist_new (w : World) (u v : Value) : Blk ((w.alloc (.cells #[u, v] 24)).alloc (.cells #[.slice none 0 0, .slice none 0 0] 24)) (w.heap.size + 1) 24 #[.slice none 0 0, .slice none 0 0] := by
  simpa using Blk.new (w.alloc (.cells #[u, v] 24)) 24 #[.slice none 0 0, .slice none 0 0]
theorem hist_old (w : World) (u v : Value) : Blk ((w.alloc (.cells #[u, v] 24)).alloc (.cells #[.slice none 0 0, .slice none 0 0] 24)) w.heap.size 24 #[u, v] :=
  (Blk.new w _ _).ext (Ext.alloc _ _)

set_option maxHeartbeats 4000000 in
theorem back_ok {A B : Option Addr} {n c m d : Nat} {p f : List Int} {now : Int} {w : World} (h : HistV w A n c B m d p f) (hn : 0 < n) (h1 : n * 8 ≤ 140737488355328) (h2 : (m + 1) * 8 ≤ 140737488355328) :
    Calls Try.prog 11 #[.agg #[.slice A n c, .slice B m d], .int .i64 now] w fun e w' => ∃ A' c' B' d', e = .returned (.tuple #[.agg #[.slice A' (n - 1) c', .slice B' (m + 1) d'], .int .i64 (gI p (n - 1)), .bool true]) ∧ HistO w' w.heap.size A' (n - 1) c' B' (m + 1) d' (p.take (n - 1)) (f ++ [now]) ∧ Ext w w' := by
  obtain ⟨i0, hi, hz0, hz1, hz2⟩ := info_parts info_int
  have z1 : ((n : Int) == 0) = false := by simp; omega
  have hx0 : Ext w ((w.alloc (.cells #[.slice A n c, .slice B m d] 24)).alloc (.cells #[.slice none 0 0, .slice none 0 0] 24)) := (Ext.alloc _ _).to_alloc _
  have hb1 := hist_old w (.slice A n c) (.slice B m d)
  have hb2 := hist_new w (.slice A n c) (.slice B m d)
  have HC := Lib.hid (copied_ok (h.ext hx0) h1 (by omega))
  have H2 := Lib.hid h2
  have hnm := h.hp.ncap
  have hcm := h.hp.nmax
  unfold maxLen at hcm
  clear h1 h2 h
  have k0 := hb1.cell 0
  have k1 := hb1.cell 1
  simp only [List.getElem?_toArray, List.getElem?_cons_zero, List.getElem?_cons_succ] at k0 k1
  go_enter Try.func11, Try.ntmps11
  go_wp2_with fail
  refine HC.out.mono ?_
  rintro e w1 ⟨A1, c1, B1, d1, rfl, oA, oB, ap1, ap2, nA, nB, he1⟩
  clear HC hb1 k0 k1
  have hdt := hb2.lt
  revert hx0 hb2 he1 oA oB hdt
  generalize (w.alloc (.cells #[.slice A n c, .slice B m d] 24)).alloc (.cells #[.slice none 0 0, .slice none 0 0] 24) = W0
  intro hx0 hb2 oA oB he1 hdt
  have nA1 := own_ne oA (Nat.le_refl _)
  have nB1 := own_ne oB (Nat.le_refl _)
  have hx1 := Ext.alloc w1 (.cells #[.slice A1 n c1, .slice B1 m d1] 24)
  have hbt := Blk.new w1 24 #[.slice A1 n c1, .slice B1 m d1]
  have oA2 := oA.ext hx1
  have oB2 := oB.ext hx1
  have HN := Lib.hid (newest_ok (oA2.ints) hn)
  have HXX := Lib.hid nA1
  have HXY := Lib.hid nB1
  clear nA1 nB1
  go_wp2_with fail
  refine HN.out.mono ?_
  rintro e w2 ⟨rfl, q, rfl⟩
  have oA3 := oA2.ext (Ext.drewN _ q)
  have oB3 := oB2.ext (Ext.drewN _ q)
  have hbt3 := hbt.drewN q
  have hx3 := he1.trans (hx1.trans (Ext.drewN _ q))
  have hsz := he1.hsize
  clear HN oA oB oA2 oB2 hbt hx1
  revert oA3 oB3 hbt3 hx3
  generalize (w1.alloc (.cells #[.slice A1 n c1, .slice B1 m d1] 24)).drewN q = W2
  intro oA3 oB3 hbt3 hx3
  have oA4 := oA3.setNe (p := ⟨w1.heap.size, 0, none⟩) HXX.out (.slice A1 (n - 1) c1)
  have oB4 := oB3.setNe (p := ⟨w1.heap.size, 0, none⟩) HXY.out (.slice A1 (n - 1) c1)
  have hbt4 : Blk (W2.setCell ⟨w1.heap.size, 0, none⟩ (.slice A1 (n - 1) c1)) w1.heap.size 24 #[.slice A1 (n - 1) c1, .slice B1 m d1] := by
    simpa using hbt3.set_ 0 (.slice A1 (n - 1) c1)
  have hx4 : Ext W0 (W2.setCell ⟨w1.heap.size, 0, none⟩ (.slice A1 (n - 1) c1)) := hx3.setCell hsz _
  have f0 := hbt3.frozen 0
  have k0 := hbt3.cell 0
  have k1 := hbt3.cell 1
  simp only [List.getElem?_toArray, List.getElem?_cons_zero, List.getElem?_cons_succ] at k0 k1
  have f1 := hbt4.frozen 1
  have k4 := hbt4.cell 0
  have k5 := hbt4.cell 1
  simp only [List.getElem?_toArray, List.getElem?_cons_zero, List.getElem?_cons_succ] at k4 k5
  have hWs := hbt3.lt
  clear oA3 oB3 hbt3 hx3
  go_wp2_with (at_builtin; refine wpList_push rfl (.tmp 26) (.tmp 28) 22 rfl W0 W0.heap.size 3 i0 (.int .i64 0) 1 8 Try.underlying22 hi hz0 hz1 hz2 rfl (by decide) B1 m d1 _ rfl oB4 #[.int .i64 now] rfl ?_ (show Value.slice (some ⟨W2.heap.size, 0, none⟩) 1 1 = Value.slice (some ⟨(W2.setCell ⟨w1.heap.size, 0, none⟩ (.slice A1 (n - 1) c1)).heap.size, 0, none⟩) 1 1 by simp) ?_ ?_ hx4 (Nat.le_refl _) hx4.hsize ?_)
  · rfl
  · have := H2.out; unfold maxLen; omega
  · exact H2.out
  · intro B2 d2 w3 oB5 hgr hor hx5
    have hbt5 : Blk w3 w1.heap.size 24 #[.slice A1 (n - 1) c1, .slice B1 m d1] := hbt4.grown hgr (fun e => HXY.out _ e.symm rfl)
    have oA5 : OwnI w3 W0.heap.size A1 n c1 p := Own.kept oA4 hgr ap1
    have hB2 : ∀ g, (Value.slice B2 (m + 1) d2).ownBlock = some g → g ≠ w1.heap.size := fun g hg => by
      rcases hor with hor | ⟨g', h1, h2⟩
      · exact HXY.out g (by rw [← hor]; exact hg)
      · rw [h2] at hg; injection hg with hg; omega
    have nB2 : B2 = none → d2 = 0 := by
      rintro rfl
      rcases oB5.2 with ⟨hv, _⟩ | ⟨g, cap, cur, hv, _⟩
      · injection hv
      · injection hv with h1; cases h1
    have hB3 : OwnI w3 W0.heap.size B2 (m + 1) d2 (f ++ [now]) := by simpa [OwnI] using oB5
    have g0 := hbt5.frozen 1
    have g1 := hbt5.cell 1
    have g2 := hbt5.cell 0
    have hbt6 : Blk (w3.setCell ⟨w1.heap.size, 1, none⟩ (.slice B2 (m + 1) d2)) w1.heap.size 24 #[.slice A1 (n - 1) c1, .slice B2 (m + 1) d2] := by
      simpa using hbt5.set_ 1 (.slice B2 (m + 1) d2)
    have hx6 : Ext W0 (w3.setCell ⟨w1.heap.size, 1, none⟩ (.slice B2 (m + 1) d2)) := hx5.setCell hsz _
    have oA6 := oA5.setNe (p := ⟨w1.heap.size, 1, none⟩) HXX.out (.slice B2 (m + 1) d2)
    have oB6 := hB3.setNe (p := ⟨w1.heap.size, 1, none⟩) hB2 (.slice B2 (m + 1) d2)
    have hb6 := hb2.ext hx6
    clear hor oB5 hgr hx5 hbt5 oA5 hB3 oA4 oB4 hbt4 hx4 f0 f1 k0 k1 k4 k5 HXX HXY hB2
    have g3 := hbt6.cell 0
    have g4 := hbt6.cell 1
    have g5 := hb6.cell 0
    have g6 := hb6.cell 1
    have g7 := hb6.frozen 0
    have g8 := hb6.frozen 1
    simp only [List.getElem?_toArray, List.getElem?_cons_zero, List.getElem?_cons_succ] at g1 g2 g3 g4 g5 g6
    have n1 : ¬ w1.heap.size = w.heap.size + 1 := by omega
    have n2 : ¬ w.heap.size + 1 = w1.heap.size := by omega
    go_wp2_with fail
    obtain ⟨c6, c7, hx, hxx, hxy⟩ := slot_facts hb6 (hx0.trans hx6) (by omega)
    refine bodyPost_ret (by simp [results, Try.results11, go_sem, c6, c7]; try rfl) rfl ?_
    have oA7 := (oA6.setCell (p := ⟨w.heap.size + 1, 0, none⟩) hdt (.slice A1 (n - 1) c1)).setCell (p := ⟨w.heap.size + 1, 1, none⟩) hdt (.slice B2 (m + 1) d2)
    have oB7 := (oB6.setCell (p := ⟨w.heap.size + 1, 0, none⟩) hdt (.slice A1 (n - 1) c1)).setCell (p := ⟨w.heap.size + 1, 1, none⟩) hdt (.slice B2 (m + 1) d2)
    have oA8 := oA7.pop (k := n - 1) (by omega) hn
    rw [← List.map_take] at oA8
    exact ⟨A1, c1, B2, d2, rfl, ⟨Own.lower oA8 hx0.hsize, Own.lower oB7 hx0.hsize, nA, nB2⟩, hx _ _⟩

set_option maxHeartbeats 4000000 in
theorem again_ok {A B : Option Addr} {n c m d : Nat} {p f : List Int} {now : Int} {w : World} (h : HistV w A n c B m d p f) (hm : 0 < m) (h1 : (n + 1) * 8 ≤ 140737488355328) (h2 : m * 8 ≤ 140737488355328) :
    Calls Try.prog 14 #[.agg #[.slice A n c, .slice B m d], .int .i64 now] w fun e w' => ∃ A' c' B' d', e = .returned (.tuple #[.agg #[.slice A' (n + 1) c', .slice B' (m - 1) d'], .int .i64 (gI f (m - 1)), .bool true]) ∧ HistO w' w.heap.size A' (n + 1) c' B' (m - 1) d' (p ++ [now]) (f.take (m - 1)) ∧ Ext w w' := by
  obtain ⟨i0, hi, hz0, hz1, hz2⟩ := info_parts info_int
  have z1 : ((m : Int) == 0) = false := by simp; omega
  have hx0 : Ext w ((w.alloc (.cells #[.slice A n c, .slice B m d] 24)).alloc (.cells #[.slice none 0 0, .slice none 0 0] 24)) := (Ext.alloc _ _).to_alloc _
  have hb1 := hist_old w (.slice A n c) (.slice B m d)
  have hb2 := hist_new w (.slice A n c) (.slice B m d)
  have HC := Lib.hid (copied_ok (h.ext hx0) (by omega) h2)
  have H2 := Lib.hid h1
  have hnm := h.hf.ncap
  have hcm := h.hf.nmax
  unfold maxLen at hcm
  clear h1 h2 h
  have k0 := hb1.cell 0
  have k1 := hb1.cell 1
  simp only [List.getElem?_toArray, List.getElem?_cons_zero, List.getElem?_cons_succ] at k0 k1
  go_enter Try.func14, Try.ntmps14
  go_wp2_with fail
  refine HC.out.mono ?_
  rintro e w1 ⟨A1, c1, B1, d1, rfl, oA, oB, ap1, ap2, nA, nB, he1⟩
  clear HC hb1 k0 k1
  have hdt := hb2.lt
  revert hx0 hb2 he1 oA oB hdt
  generalize (w.alloc (.cells #[.slice A n c, .slice B m d] 24)).alloc (.cells #[.slice none 0 0, .slice none 0 0] 24) = W0
  intro hx0 hb2 oA oB he1 hdt
  have nA1 := own_ne oA (Nat.le_refl _)
  have nB1 := own_ne oB (Nat.le_refl _)
  have hx1 := Ext.alloc w1 (.cells #[.slice A1 n c1, .slice B1 m d1] 24)
  have hbt := Blk.new w1 24 #[.slice A1 n c1, .slice B1 m d1]
  have oA2 := oA.ext hx1
  have oB2 := oB.ext hx1
  have HN := Lib.hid (newest_ok (oB2.ints) hm)
  have HXX := Lib.hid nA1
  have HXY := Lib.hid nB1
  clear nA1 nB1
  go_wp2_with fail
  refine HN.out.mono ?_
  rintro e w2 ⟨rfl, q, rfl⟩
  have oA3 := oA2.ext (Ext.drewN _ q)
  have oB3 := oB2.ext (Ext.drewN _ q)
  have hbt3 := hbt.drewN q
  have hx3 := he1.trans (hx1.trans (Ext.drewN _ q))
  have hsz := he1.hsize
  clear HN oA oB oA2 oB2 hbt hx1
  revert oA3 oB3 hbt3 hx3
  generalize (w1.alloc (.cells #[.slice A1 n c1, .slice B1 m d1] 24)).drewN q = W2
  intro oA3 oB3 hbt3 hx3
  have oA4 := oA3.setNe (p := ⟨w1.heap.size, 1, none⟩) HXX.out (.slice B1 (m - 1) d1)
  have oB4 := oB3.setNe (p := ⟨w1.heap.size, 1, none⟩) HXY.out (.slice B1 (m - 1) d1)
  have hbt4 : Blk (W2.setCell ⟨w1.heap.size, 1, none⟩ (.slice B1 (m - 1) d1)) w1.heap.size 24 #[.slice A1 n c1, .slice B1 (m - 1) d1] := by
    simpa using hbt3.set_ 1 (.slice B1 (m - 1) d1)
  have hx4 : Ext W0 (W2.setCell ⟨w1.heap.size, 1, none⟩ (.slice B1 (m - 1) d1)) := hx3.setCell hsz _
  have f0 := hbt3.frozen 1
  have k0 := hbt3.cell 0
  have k1 := hbt3.cell 1
  simp only [List.getElem?_toArray, List.getElem?_cons_zero, List.getElem?_cons_succ] at k0 k1
  have f1 := hbt4.frozen 0
  have k4 := hbt4.cell 0
  have k5 := hbt4.cell 1
  simp only [List.getElem?_toArray, List.getElem?_cons_zero, List.getElem?_cons_succ] at k4 k5
  have hWs := hbt3.lt
  clear oA3 oB3 hbt3 hx3
  go_wp2_with (at_builtin; refine wpList_push rfl (.tmp 26) (.tmp 28) 22 rfl W0 W0.heap.size 3 i0 (.int .i64 0) 1 8 Try.underlying22 hi hz0 hz1 hz2 rfl (by decide) A1 n c1 _ rfl oA4 #[.int .i64 now] rfl ?_ (show Value.slice (some ⟨W2.heap.size, 0, none⟩) 1 1 = Value.slice (some ⟨(W2.setCell ⟨w1.heap.size, 1, none⟩ (.slice B1 (m - 1) d1)).heap.size, 0, none⟩) 1 1 by simp) ?_ ?_ hx4 (Nat.le_refl _) hx4.hsize ?_)
  · rfl
  · have := H2.out; unfold maxLen; omega
  · exact H2.out
  · intro A2 c2 w3 oA5 hgr hor hx5
    have hbt5 : Blk w3 w1.heap.size 24 #[.slice A1 n c1, .slice B1 (m - 1) d1] := hbt4.grown hgr (fun e => HXX.out _ e.symm rfl)
    have oB5 : OwnI w3 W0.heap.size B1 m d1 f := Own.kept oB4 hgr ap2
    have hB2 : ∀ g, (Value.slice A2 (n + 1) c2).ownBlock = some g → g ≠ w1.heap.size := fun g hg => by
      rcases hor with hor | ⟨g', h1, h2⟩
      · exact HXX.out g (by rw [← hor]; exact hg)
      · rw [h2] at hg; injection hg with hg; omega
    have nA2 : A2 = none → c2 = 0 := by
      rintro rfl
      rcases oA5.2 with ⟨hv, _⟩ | ⟨g, cap, cur, hv, _⟩
      · injection hv
      · injection hv with h1; cases h1
    have hA3 : OwnI w3 W0.heap.size A2 (n + 1) c2 (p ++ [now]) := by simpa [OwnI] using oA5
    have g0 := hbt5.frozen 0
    have g1 := hbt5.cell 1
    have g2 := hbt5.cell 0
    have hbt6 : Blk (w3.setCell ⟨w1.heap.size, 0, none⟩ (.slice A2 (n + 1) c2)) w1.heap.size 24 #[.slice A2 (n + 1) c2, .slice B1 (m - 1) d1] := by
      simpa using hbt5.set_ 0 (.slice A2 (n + 1) c2)
    have hx6 : Ext W0 (w3.setCell ⟨w1.heap.size, 0, none⟩ (.slice A2 (n + 1) c2)) := hx5.setCell hsz _
    have oA6 := hA3.setNe (p := ⟨w1.heap.size, 0, none⟩) hB2 (.slice A2 (n + 1) c2)
    have oB6 := oB5.setNe (p := ⟨w1.heap.size, 0, none⟩) HXY.out (.slice A2 (n + 1) c2)
    have hb6 := hb2.ext hx6
    clear hor oA5 hgr hx5 hbt5 oB5 hA3 oA4 oB4 hbt4 hx4 f0 f1 k0 k1 k4 k5 HXX HXY hB2
    have g3 := hbt6.cell 0
    have g4 := hbt6.cell 1
    have g5 := hb6.cell 0
    have g6 := hb6.cell 1
    have g7 := hb6.frozen 0
    have g8 := hb6.frozen 1
    simp only [List.getElem?_toArray, List.getElem?_cons_zero, List.getElem?_cons_succ] at g1 g2 g3 g4 g5 g6
    have n1 : ¬ w1.heap.size = w.heap.size + 1 := by omega
    have n2 : ¬ w.heap.size + 1 = w1.heap.size := by omega
    go_wp2_with fail
    obtain ⟨c6, c7, hx, hxx, hxy⟩ := slot_facts hb6 (hx0.trans hx6) (by omega)
    refine bodyPost_ret (by simp [results, Try.results14, go_sem, c6, c7]; try rfl) rfl ?_
    have oA7 := (oA6.setCell (p := ⟨w.heap.size + 1, 0, none⟩) hdt (.slice A2 (n + 1) c2)).setCell (p := ⟨w.heap.size + 1, 1, none⟩) hdt (.slice B1 (m - 1) d1)
    have oB7 := (oB6.setCell (p := ⟨w.heap.size + 1, 0, none⟩) hdt (.slice A2 (n + 1) c2)).setCell (p := ⟨w.heap.size + 1, 1, none⟩) hdt (.slice B1 (m - 1) d1)
    have oB8 := oB7.pop (k := m - 1) (by omega) hm
    rw [← List.map_take] at oB8
    exact ⟨A2, c2, B1, d1, rfl, ⟨Own.lower oA7 hx0.hsize, Own.lower oB8 hx0.hsize, nA2, nB⟩, hx _ _⟩

end Go.Proofs.Ytbhbakejpgndmaa
