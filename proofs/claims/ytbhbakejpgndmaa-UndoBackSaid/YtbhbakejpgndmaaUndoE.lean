/-
  undo.Do at int: the walk.
-/
import Derived.Test.YtbhbakejpgndmaaUndoD
namespace Go.Proofs.Ytbhbakejpgndmaa
open Go.RowKit
set_option linter.unusedVariables false
set_option linter.unusedSimpArgs false

theorem Ints.empty {w : World} (A : Option Addr) (c : Nat) (h : c ≤ maxLen) : Ints w A 0 c [] := ⟨rfl, Nat.zero_le _, h, fun h => absurd h (by omega)⟩

/-- What Do keeps. -/
def doF (p : List Int) (K : Nat) (now : Int) : List Int := (p ++ [now]).drop (p.length + 1 - K)

set_option maxHeartbeats 4000000 in
theorem do_ok {A B : Option Addr} {n c m d : Nat} {p f : List Int} {now most : Int} {w : World} (h : HistV w A n c B m d p f) (h1 : (n + 1) * 8 ≤ 140737488355328) (hw : (Lit.int .i64 most).wf = true) :
    Calls Try.prog 12 #[.agg #[.slice A n c, .slice B m d], .int .i64 most, .int .i64 now] w fun e w' => ∃ A' n' c', e = .returned (.agg #[.slice A' n' c', .slice none 0 0]) ∧ HistO w' w.heap.size A' n' c' none 0 0 (doF p (max most 0).toNat now) [] ∧ Ext w w' := by
  obtain ⟨i0, hi, hz0, hz1, hz2⟩ := info_parts info_int
  have hx0 : Ext w ((w.alloc (.cells #[.slice A n c, .slice B m d] 24)).alloc (.cells #[.slice none 0 0, .slice none 0 0] 24)) := (Ext.alloc _ _).to_alloc _
  have hb1 := hist_old w (.slice A n c) (.slice B m d)
  have hb2 := hist_new w (.slice A n c) (.slice B m d)
  have HC := Lib.hid (clone_ok (h.hp.ext hx0) h.hA (by omega))
  have H2 := Lib.hid h1
  have hlen := Lib.hid h.hp.len
  have hbd := bounds_i64 hw
  have hn8 : n ≤ 17592186044416 := by omega
  clear h1 h hw
  have k0 := hb1.cell 0
  have k1 := hb1.cell 1
  simp only [List.getElem?_toArray, List.getElem?_cons_zero, List.getElem?_cons_succ] at k0 k1
  go_enter Try.func12, Try.ntmps12
  go_wp2_with fail
  refine HC.out.mono ?_
  rintro e w1 ⟨B1, d1, rfl, oA, nA, he1⟩
  clear HC hb1 k0 k1
  have hdt := hb2.lt
  revert hx0 hb2 oA he1 hdt
  generalize (w.alloc (.cells #[.slice A n c, .slice B m d] 24)).alloc (.cells #[.slice none 0 0, .slice none 0 0] 24) = W0
  intro hx0 hb2 oA he1 hdt
  have hsz := he1.hsize
  go_wp2_with (at_builtin; refine wpList_push rfl (.tmp 11) (.tmp 13) 22 rfl W0 W0.heap.size 3 i0 (.int .i64 0) 1 8 Try.underlying22 hi hz0 hz1 hz2 rfl (by decide) B1 n d1 _ rfl oA #[.int .i64 now] rfl ?_ rfl ?_ ?_ he1 (Nat.le_refl _) he1.hsize ?_)
  · rfl
  · have := H2.out; unfold maxLen; omega
  · exact H2.out
  · intro A2 c2 w3 oA2 hgr hor hx3
    have oA3 : OwnI w3 W0.heap.size A2 (n + 1) c2 (p ++ [now]) := by simpa [OwnI] using oA2
    have hcn := oA3.ints.ncap
    have hcm := oA3.ints.nmax
    unfold maxLen at hcm
    have hx4 := hx3.trans (Ext.alloc w3 (.cells #[.slice A2 (n + 1) c2, .slice none 0 0] 24))
    have hbt := Blk.new w3 24 #[.slice A2 (n + 1) c2, .slice none 0 0]
    have hs3 := hx3.hsize
    have oA4 := oA3.ext (Ext.alloc w3 (.cells #[.slice A2 (n + 1) c2, .slice none 0 0] 24))
    have hI := oA4.ints
    clear oA2 hgr hor oA he1 hsz oA3
    obtain ⟨a2, rfl, _⟩ := hI.at_ (k := 0) (by omega)
    have hb6 := hb2.ext hx4
    have g5 := hb6.cell 0
    have g6 := hb6.cell 1
    have g7 := hb6.frozen 0
    have g8 := hb6.frozen 1
    simp only [List.getElem?_toArray, List.getElem?_cons_zero, List.getElem?_cons_succ] at g5 g6
    have n1 : ¬ w3.heap.size = w.heap.size + 1 := by omega
    have n2 : ¬ w.heap.size + 1 = w3.heap.size := by omega
    by_cases hK : (n : Int) + 1 ≤ max most 0
    · have q1 : 0 < most := by omega
      have q2 : (n : Int) + 1 - most ≤ 0 := by omega
      have HK := Lib.hid hK
      clear hK
      go_wp2_with fail
      all_goals
        obtain ⟨c6, c7, hx, hxx, hxy⟩ := slot_facts hb6 (hx0.trans hx4) (by omega)
        refine bodyPost_ret (by simp [results, Try.results12, go_sem, c6, c7]; try rfl) rfl ?_
        have oA7 := (oA4.setCell (p := ⟨w.heap.size + 1, 0, none⟩) hdt (.slice (some a2) (n + 1) c2)).setCell (p := ⟨w.heap.size + 1, 1, none⟩) hdt (.slice none 0 0)
        refine ⟨some a2, n + 1, c2, rfl, ⟨?_, OwnI.nil _ _, nofun, fun _ => rfl⟩, hx _ _⟩
        have : doF p (max most 0).toNat now = p ++ [now] := by
          have := HK.out
          unfold doF
          rw [hlen.out, show n + 1 - (max most 0).toNat = 0 by omega]; rfl
        rw [this]
        exact Own.lower oA7 hx0.hsize
    · obtain ⟨K, hK2⟩ : ∃ K : Nat, max most 0 = (K : Int) := ⟨(max most 0).toNat, by omega⟩
      have HK := Lib.hid hK2
      clear hi hz0 hz1 hz2
      by_cases hm0 : most ≤ 0
      · clear hK hK2 HK
        rcases Int.lt_or_eq_of_le hm0 with hm1 | hm1
        · have HM := Lib.hid hm0
          have hm2 : ¬ 0 ≤ most := by omega
          by_cases hcc : c2 = n + 1
          · subst hcc
            go_wp2_with fail
            refine (clone_ok (A := some a2) (n := 0) (c := 0) (l := []) (Ints.empty _ _ (by unfold maxLen; omega)) nofun (by omega)).mono ?_
            rintro e w5 ⟨B5, d5, rfl, oA5, nA5, he5⟩
            have hbt5 := hbt.ext he5
            have hlt := hbt.lt
            have hx5 := hx4.trans he5
            have g0 := hbt5.frozen 0
            have g1 := hbt5.cell 0
            have g2 := hbt5.cell 1
            have hbt6 : Blk (w5.setCell ⟨w3.heap.size, 0, none⟩ (.slice B5 0 d5)) w3.heap.size 24 #[.slice B5 0 d5, .slice none 0 0] := by
              simpa using hbt5.set_ 0 (.slice B5 0 d5)
            have hx6 : Ext W0 (w5.setCell ⟨w3.heap.size, 0, none⟩ (.slice B5 0 d5)) := hx5.setCell hs3 _
            have oA6 := Own.setCell (p := ⟨w3.heap.size, 0, none⟩) oA5 hlt (.slice B5 0 d5)
            have hb6' := hb2.ext hx6
            clear g5 g6 g7 g8
            have g3 := hbt6.cell 0
            have g4 := hbt6.cell 1
            have g5 := hb6'.cell 0
            have g6 := hb6'.cell 1
            have g7 := hb6'.frozen 0
            have g8 := hb6'.frozen 1
            simp only [List.getElem?_toArray, List.getElem?_cons_zero, List.getElem?_cons_succ] at g1 g2 g3 g4 g5 g6
            have hdt2 := Nat.lt_of_lt_of_le hdt hx4.hsize
            clear hI oA4 hbt hbt5 oA5 hb6
            go_wp2_with fail
            obtain ⟨c6, c7, hx, hxx, hxy⟩ := slot_facts hb6' (hx0.trans hx6) (by omega)
            refine bodyPost_ret (by simp [results, Try.results12, go_sem, c6, c7]; try rfl) rfl ?_
            have oA7 := (Own.setCell (p := ⟨w.heap.size + 1, 0, none⟩) oA6 hdt2 (.slice B5 0 d5)).setCell (p := ⟨w.heap.size + 1, 1, none⟩) hdt2 (.slice none 0 0)
            have : doF p (max most 0).toNat now = [] := by
              have := HM.out
              unfold doF
              rw [hlen.out, show n + 1 - (max most 0).toNat = n + 1 by omega]
              simp [hlen.out]
            rw [this]
            exact ⟨B5, _, d5, rfl, ⟨Own.lower oA7 (hx0.trans hx4).hsize, OwnI.nil _ _, nA5, fun _ => rfl⟩, hx _ _⟩
          · have hcd : ¬ c2 ≤ n + 1 := by omega
            go_wp2_with fail
            refine (clone_ok (A := some (a2.add (n + 1))) (n := 0) (c := c2 - (n + 1)) (l := []) (Ints.empty _ _ (by unfold maxLen; omega)) nofun (by omega)).mono ?_
            rintro e w5 ⟨B5, d5, rfl, oA5, nA5, he5⟩
            have hbt5 := hbt.ext he5
            have hlt := hbt.lt
            have hx5 := hx4.trans he5
            have g0 := hbt5.frozen 0
            have g1 := hbt5.cell 0
            have g2 := hbt5.cell 1
            have hbt6 : Blk (w5.setCell ⟨w3.heap.size, 0, none⟩ (.slice B5 0 d5)) w3.heap.size 24 #[.slice B5 0 d5, .slice none 0 0] := by
              simpa using hbt5.set_ 0 (.slice B5 0 d5)
            have hx6 : Ext W0 (w5.setCell ⟨w3.heap.size, 0, none⟩ (.slice B5 0 d5)) := hx5.setCell hs3 _
            have oA6 := Own.setCell (p := ⟨w3.heap.size, 0, none⟩) oA5 hlt (.slice B5 0 d5)
            have hb6' := hb2.ext hx6
            clear g5 g6 g7 g8
            have g3 := hbt6.cell 0
            have g4 := hbt6.cell 1
            have g5 := hb6'.cell 0
            have g6 := hb6'.cell 1
            have g7 := hb6'.frozen 0
            have g8 := hb6'.frozen 1
            simp only [List.getElem?_toArray, List.getElem?_cons_zero, List.getElem?_cons_succ] at g1 g2 g3 g4 g5 g6
            have hdt2 := Nat.lt_of_lt_of_le hdt hx4.hsize
            clear hI oA4 hbt hbt5 oA5 hb6
            go_wp2_with fail
            obtain ⟨c6, c7, hx, hxx, hxy⟩ := slot_facts hb6' (hx0.trans hx6) (by omega)
            refine bodyPost_ret (by simp [results, Try.results12, go_sem, c6, c7]; try rfl) rfl ?_
            have oA7 := (Own.setCell (p := ⟨w.heap.size + 1, 0, none⟩) oA6 hdt2 (.slice B5 0 d5)).setCell (p := ⟨w.heap.size + 1, 1, none⟩) hdt2 (.slice none 0 0)
            have : doF p (max most 0).toNat now = [] := by
              have := HM.out
              unfold doF
              rw [hlen.out, show n + 1 - (max most 0).toNat = n + 1 by omega]
              simp [hlen.out]
            rw [this]
            exact ⟨B5, _, d5, rfl, ⟨Own.lower oA7 (hx0.trans hx4).hsize, OwnI.nil _ _, nA5, fun _ => rfl⟩, hx _ _⟩
        · subst hm1
          have HM := Lib.hid hm0
          by_cases hcc : c2 = n + 1
          · subst hcc
            go_wp2_with fail
            refine (clone_ok (A := some a2) (n := 0) (c := 0) (l := []) (Ints.empty _ _ (by unfold maxLen; omega)) nofun (by omega)).mono ?_
            rintro e w5 ⟨B5, d5, rfl, oA5, nA5, he5⟩
            have hbt5 := hbt.ext he5
            have hlt := hbt.lt
            have hx5 := hx4.trans he5
            have g0 := hbt5.frozen 0
            have g1 := hbt5.cell 0
            have g2 := hbt5.cell 1
            have hbt6 : Blk (w5.setCell ⟨w3.heap.size, 0, none⟩ (.slice B5 0 d5)) w3.heap.size 24 #[.slice B5 0 d5, .slice none 0 0] := by
              simpa using hbt5.set_ 0 (.slice B5 0 d5)
            have hx6 : Ext W0 (w5.setCell ⟨w3.heap.size, 0, none⟩ (.slice B5 0 d5)) := hx5.setCell hs3 _
            have oA6 := Own.setCell (p := ⟨w3.heap.size, 0, none⟩) oA5 hlt (.slice B5 0 d5)
            have hb6' := hb2.ext hx6
            clear g5 g6 g7 g8
            have g3 := hbt6.cell 0
            have g4 := hbt6.cell 1
            have g5 := hb6'.cell 0
            have g6 := hb6'.cell 1
            have g7 := hb6'.frozen 0
            have g8 := hb6'.frozen 1
            simp only [List.getElem?_toArray, List.getElem?_cons_zero, List.getElem?_cons_succ] at g1 g2 g3 g4 g5 g6
            have hdt2 := Nat.lt_of_lt_of_le hdt hx4.hsize
            clear hI oA4 hbt hbt5 oA5 hb6
            go_wp2_with fail
            obtain ⟨c6, c7, hx, hxx, hxy⟩ := slot_facts hb6' (hx0.trans hx6) (by omega)
            refine bodyPost_ret (by simp [results, Try.results12, go_sem, c6, c7]; try rfl) rfl ?_
            have oA7 := (Own.setCell (p := ⟨w.heap.size + 1, 0, none⟩) oA6 hdt2 (.slice B5 0 d5)).setCell (p := ⟨w.heap.size + 1, 1, none⟩) hdt2 (.slice none 0 0)
            have : doF p (max (0 : Int) 0).toNat now = [] := by
              have := HM.out
              unfold doF
              rw [hlen.out, show n + 1 - (max (0 : Int) 0).toNat = n + 1 by omega]
              simp [hlen.out]
            rw [this]
            exact ⟨B5, _, d5, rfl, ⟨Own.lower oA7 (hx0.trans hx4).hsize, OwnI.nil _ _, nA5, fun _ => rfl⟩, hx _ _⟩
          · have hcd : ¬ c2 ≤ n + 1 := by omega
            go_wp2_with fail
            refine (clone_ok (A := some (a2.add (n + 1))) (n := 0) (c := c2 - (n + 1)) (l := []) (Ints.empty _ _ (by unfold maxLen; omega)) nofun (by omega)).mono ?_
            rintro e w5 ⟨B5, d5, rfl, oA5, nA5, he5⟩
            have hbt5 := hbt.ext he5
            have hlt := hbt.lt
            have hx5 := hx4.trans he5
            have g0 := hbt5.frozen 0
            have g1 := hbt5.cell 0
            have g2 := hbt5.cell 1
            have hbt6 : Blk (w5.setCell ⟨w3.heap.size, 0, none⟩ (.slice B5 0 d5)) w3.heap.size 24 #[.slice B5 0 d5, .slice none 0 0] := by
              simpa using hbt5.set_ 0 (.slice B5 0 d5)
            have hx6 : Ext W0 (w5.setCell ⟨w3.heap.size, 0, none⟩ (.slice B5 0 d5)) := hx5.setCell hs3 _
            have oA6 := Own.setCell (p := ⟨w3.heap.size, 0, none⟩) oA5 hlt (.slice B5 0 d5)
            have hb6' := hb2.ext hx6
            clear g5 g6 g7 g8
            have g3 := hbt6.cell 0
            have g4 := hbt6.cell 1
            have g5 := hb6'.cell 0
            have g6 := hb6'.cell 1
            have g7 := hb6'.frozen 0
            have g8 := hb6'.frozen 1
            simp only [List.getElem?_toArray, List.getElem?_cons_zero, List.getElem?_cons_succ] at g1 g2 g3 g4 g5 g6
            have hdt2 := Nat.lt_of_lt_of_le hdt hx4.hsize
            clear hI oA4 hbt hbt5 oA5 hb6
            go_wp2_with fail
            obtain ⟨c6, c7, hx, hxx, hxy⟩ := slot_facts hb6' (hx0.trans hx6) (by omega)
            refine bodyPost_ret (by simp [results, Try.results12, go_sem, c6, c7]; try rfl) rfl ?_
            have oA7 := (Own.setCell (p := ⟨w.heap.size + 1, 0, none⟩) oA6 hdt2 (.slice B5 0 d5)).setCell (p := ⟨w.heap.size + 1, 1, none⟩) hdt2 (.slice none 0 0)
            have : doF p (max (0 : Int) 0).toNat now = [] := by
              have := HM.out
              unfold doF
              rw [hlen.out, show n + 1 - (max (0 : Int) 0).toNat = n + 1 by omega]
              simp [hlen.out]
            rw [this]
            exact ⟨B5, _, d5, rfl, ⟨Own.lower oA7 (hx0.trans hx4).hsize, OwnI.nil _ _, nA5, fun _ => rfl⟩, hx _ _⟩
      · obtain rfl : most = (K : Int) := by omega
        have e2 : ¬ (n : Int) + 1 ≤ K := by omega
        have hKn : K ≤ n := by omega
        clear hK hK2 
        go_wp2_with fail
        refine (clone_ok (hI.back (k := n + 1 - K) (by omega)) nofun (by have := H2.out; omega)).mono ?_
        rintro e w5 ⟨B5, d5, rfl, oA5, nA5, he5⟩
        have hbt5 := hbt.ext he5
        have hlt := hbt.lt
        have hx5 := hx4.trans he5
        have g0 := hbt5.frozen 0
        have g1 := hbt5.cell 0
        have g2 := hbt5.cell 1
        have hbt6 : Blk (w5.setCell ⟨w3.heap.size, 0, none⟩ (.slice B5 (n + 1 - (n + 1 - K)) d5)) w3.heap.size 24 #[.slice B5 (n + 1 - (n + 1 - K)) d5, .slice none 0 0] := by
          simpa using hbt5.set_ 0 (.slice B5 (n + 1 - (n + 1 - K)) d5)
        have hx6 : Ext W0 (w5.setCell ⟨w3.heap.size, 0, none⟩ (.slice B5 (n + 1 - (n + 1 - K)) d5)) := hx5.setCell hs3 _
        have oA6 := Own.setCell (p := ⟨w3.heap.size, 0, none⟩) oA5 hlt (.slice B5 (n + 1 - (n + 1 - K)) d5)
        have hb6' := hb2.ext hx6
        clear g5 g6 g7 g8
        have g3 := hbt6.cell 0
        have g4 := hbt6.cell 1
        have g5 := hb6'.cell 0
        have g6 := hb6'.cell 1
        have g7 := hb6'.frozen 0
        have g8 := hb6'.frozen 1
        simp only [List.getElem?_toArray, List.getElem?_cons_zero, List.getElem?_cons_succ] at g1 g2 g3 g4 g5 g6
        have hdt2 := Nat.lt_of_lt_of_le hdt hx4.hsize
        clear hI oA4 hbt hbt5 oA5 hb6
        go_wp2_with fail
        obtain ⟨c6, c7, hx, hxx, hxy⟩ := slot_facts hb6' (hx0.trans hx6) (by omega)
        refine bodyPost_ret (by simp [results, Try.results12, go_sem, c6, c7]; try rfl) rfl ?_
        have oA7 := (Own.setCell (p := ⟨w.heap.size + 1, 0, none⟩) oA6 hdt2 (.slice B5 (n + 1 - (n + 1 - K)) d5)).setCell (p := ⟨w.heap.size + 1, 1, none⟩) hdt2 (.slice none 0 0)
        have : doF p (max (K : Int) 0).toNat now = (p ++ [now]).drop (n + 1 - K) := by
          unfold doF
          rw [hlen.out]
          congr 1
          omega
        rw [this]
        exact ⟨B5, _, d5, rfl, ⟨Own.lower oA7 (hx0.trans hx4).hsize, OwnI.nil _ _, nA5, fun _ => rfl⟩, hx _ _⟩
end Go.Proofs.Ytbhbakejpgndmaa
