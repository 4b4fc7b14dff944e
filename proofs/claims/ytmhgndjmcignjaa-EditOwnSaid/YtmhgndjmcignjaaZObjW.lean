/-
  object.words: the walk.
-/
import Derived.Test.YtmhgndjmcignjaaZObjR

namespace Go.Proofs.Ytmhgndjmcignjaa
open Go.RowKit
set_option linter.unusedVariables false
set_option linter.unusedSimpArgs false

/-- A run of one kind around a place. -/
def runF (l : List Int) (k : Nat) (big : Bool) : Nat := runL l big (kindAt l big k) k
def runT (l : List Int) (k : Nat) (big : Bool) : Nat := runR l big (kindAt l big k) k
theorem run_facts {l : List Int} {k : Nat} {big : Bool} (hk : k < l.length) : runF l k big ≤ k ∧ k < runT l k big ∧ runT l k big ≤ l.length ∧ ∀ x : Nat, runF l k big ≤ x → x < runT l k big → kindAt l big x = kindAt l big k := by
  unfold runF runT
  have h0 : 0 ≤ kindAt l big k := by rw [kindAt_in hk]; exact (kindF_bd _ _).1
  obtain ⟨a1, a2, a3⟩ := runL_spec (l := l) (big := big) (kind := kindAt l big k) k
  obtain ⟨b1, b2, b3, b4⟩ := runR_spec (l := l) (big := big) (kind := kindAt l big k) h0 k
  have hne : runR l big (kindAt l big k) k ≠ k := fun e => b3 (by rw [e])
  refine ⟨a1, by omega, by omega, fun x h1 h2 => ?_⟩
  rcases Nat.lt_or_ge x k with h | h
  · exact a2 x h1 h
  · exact b2 x h h2

set_option maxRecDepth 20000 in
set_option maxHeartbeats 2000000 in
theorem words_in {l : List Int} {A : Option Addr} {n c : Nat} {k : Nat} {big : Bool} {w : World} (hl : Ints w A n c l) (hn : n ≤ 4096) (hk : k < n) :
    Calls Try.prog 46 #[.slice A n c, .int .i64 k, .bool false, .bool big] w fun e w' => e = .returned (.tuple #[.agg #[.int .i64 (runF l k big), .int .i64 (runT l k big)], .int .i64 0]) ∧ Ext w w' := by
  have hnc := hl.ncap
  have hcm := hl.nmax
  have z1 : ((n : Int) == 0) = false := by simp; omega
  unfold maxLen at hcm
  have hx := Ext.alloc w (.cells #[.int .i64 0, .int .i64 0] 92)
  have hb0 := Blk.new w 92 #[.int .i64 0, .int .i64 0]
  have HR := Lib.hid (run_ok (big := big) (hl.ext hx) hn hk)
  clear hl
  go_enter Try.func46, Try.ntmps46
  go_wp2_with fail
  refine HR.out.mono ?_
  rintro e w1 ⟨rfl, he1⟩
  have hq := (hb0.ext he1).ext (Ext.alloc _ (.cells #[.int .i64 (runF l k big), .int .i64 (runT l k big)] 92))
  have hef := (hx.trans he1).to_alloc (.cells #[.int .i64 (runF l k big), .int .i64 (runT l k big)] 92)
  have f0 := hq.frozen 0
  have f1 := hq.frozen 1
  have c4 := hq.cell 0
  have c5 := hq.cell 1
  simp only [List.getElem?_toArray, List.getElem?_cons_zero, List.getElem?_cons_succ] at c4 c5
  clear HR hb0 hx he1
  rw [show runL l big (kindAt l big k) k = runF l k big from rfl, show runR l big (kindAt l big k) k = runT l k big from rfl]
  go_wp2_with fail
  have hbf : Blk (((w1.alloc (.cells #[.int .i64 (runF l k big), .int .i64 (runT l k big)] 92)).setCell ⟨w.heap.size, 0, none⟩ (.int .i64 (runF l k big))).setCell ⟨w.heap.size, 1, none⟩ (.int .i64 (runT l k big))) w.heap.size 92 #[.int .i64 (runF l k big), .int .i64 (runT l k big)] := by
    simpa using (hq.set_ 0 (.int .i64 (runF l k big))).set_ 1 (.int .i64 (runT l k big))
  have c6 := hbf.cell 0
  have c7 := hbf.cell 1
  simp only [List.getElem?_toArray, List.getElem?_cons_zero, List.getElem?_cons_succ] at c6 c7
  clear c4 c5 f0 f1 hbf
  refine bodyPost_ret (by simp [results, Try.results46, go_sem, c6, c7]; try rfl) rfl ?_
  exact ⟨rfl, (hef.setCell (by simp) _).setCell (by simp) _⟩

/-- What words with what is around finds. -/
def woF (l : List Int) (k : Nat) (big : Bool) : Nat × Nat :=
  if runT l k big < l.length ∧ (kindAt l big k = 0 ∨ kindAt l big (runT l k big) = 0) then (runF l k big, runT l (runT l k big) big)
  else if kindAt l big k ≠ 0 ∧ 0 < runF l k big ∧ kindAt l big (runF l k big - 1 : Nat) = 0 then (runF l (runF l k big - 1) big, runT l k big)
  else (runF l k big, runT l k big)
theorem woF_facts {l : List Int} {k : Nat} {big : Bool} (hk : k < l.length) : (woF l k big).1 ≤ runF l k big ∧ runT l k big ≤ (woF l k big).2 ∧ (woF l k big).2 ≤ l.length := by
  obtain ⟨a1, a2, a3, a4⟩ := run_facts (big := big) hk
  unfold woF
  split
  · rename_i h
    obtain ⟨b1, b2, b3, b4⟩ := run_facts (big := big) h.1
    exact ⟨Nat.le_refl _, by show runT l k big ≤ runT l (runT l k big) big; omega, b3⟩
  · split
    · rename_i h
      obtain ⟨b1, b2, b3, b4⟩ := run_facts (l := l) (k := runF l k big - 1) (big := big) (by omega)
      exact ⟨by show runF l (runF l k big - 1) big ≤ runF l k big; omega, Nat.le_refl _, a3⟩
    · exact ⟨Nat.le_refl _, Nat.le_refl _, a3⟩

theorem span_field0 (a b : Value) (u : World) : (Instr.field 92 (.agg #[a, b]) 0).run Try.prog u = .ok a u := by kernel_rfl
theorem span_field1 (a b : Value) (u : World) : (Instr.field 92 (.agg #[a, b]) 1).run Try.prog u = .ok b u := by kernel_rfl

set_option maxRecDepth 20000 in
set_option maxHeartbeats 8000000 in
theorem words_out {l : List Int} {A : Option Addr} {n c : Nat} {k : Nat} {big : Bool} {w : World} (hl : Ints w A n c l) (hn : n ≤ 4096) (hk : k < n) :
    Calls Try.prog 46 #[.slice A n c, .int .i64 k, .bool true, .bool big] w fun e w' => e = .returned (.tuple #[.agg #[.int .i64 (woF l k big).1, .int .i64 (woF l k big).2], .int .i64 0]) ∧ Ext w w' := by
  have hnc := hl.ncap
  have hcm := hl.nmax
  have hlen := Lib.hid hl.len
  have z1 : ((n : Int) == 0) = false := by simp; omega
  unfold maxLen at hcm
  have hx := Ext.alloc w (.cells #[.int .i64 0, .int .i64 0] 92)
  have hb0 := Blk.new w 92 #[.int .i64 0, .int .i64 0]
  have HR := Lib.hid (run_ok (big := big) (hl.ext hx) hn hk)
  obtain ⟨a1, a2, a3, -⟩ := run_facts (l := l) (k := k) (big := big) (by rw [hlen.out]; exact hk)
  rw [hlen.out] at a3
  obtain ⟨ad, rfl, hc⟩ := hl.at_ hk
  have HC := Lib.hid hc
  have hkk : Hid (kindAt l big k = kindF (gI l k) big) := kindAt_in (by rw [hlen.out]; exact hk)
  have HIN : Hid (∀ j : Nat, j < n → kindAt l big j = kindF (gI l j) big) := Lib.hid (fun j hj => kindAt_in (by rw [hlen.out]; exact hj))
  clear hc
  go_enter Try.func46, Try.ntmps46
  go_wp2_with fail
  refine HR.out.mono ?_
  rintro e w1 ⟨rfl, he1⟩
  have hT := Ext.alloc w1 (.cells #[.int .i64 (runF l k big), .int .i64 (runT l k big)] 92)
  have hq := (hb0.ext he1).ext hT
  have hr := Blk.new w1 92 #[.int .i64 (runF l k big), .int .i64 (runT l k big)]
  have hef := (hx.trans he1).trans hT
  have hlX := hl.ext hef
  have hw1 : w.heap.size < w1.heap.size := (hb0.ext he1).lt
  have d1 := hef.cell (HC.out k hk)
  clear HR hb0 hx he1 hl
  rw [show runL l big (kindAt l big k) k = runF l k big from rfl, show runR l big (kindAt l big k) k = runT l k big from rfl]
  go_wp2_with fail
  revert hT hq hr hef hlX d1
  generalize w1.alloc (.cells #[.int .i64 (runF l k big), .int .i64 (runT l k big)] 92) = w2
  intro hT hq hr hef hlX d1
  refine (wkind_ok2 _ _ _).mono ?_
  rintro e w3 ⟨rfl, rfl⟩
  clear d1
  have c0 := hr.cell 0
  have c1 := hr.cell 1
  simp only [List.getElem?_toArray, List.getElem?_cons_zero, List.getElem?_cons_succ] at c0 c1
  rcases Nat.lt_or_ge (runT l k big) n with hlt | hge
  · have dT := hef.cell (HC.out _ hlt)
    by_cases hbl : kindF (gI l k) big = 0
    · have b1 : (kindF (gI l k) big == 0) = true := by simpa using hbl
      have HW : Hid (woF l k big = (runF l k big, runT l (runT l k big) big)) := Lib.hid (by unfold woF; rw [if_pos ⟨by rw [hlen.out]; exact hlt, .inl (by rw [hkk.out]; exact hbl)⟩])
      clear hbl
      go_wp2_with fail
      refine (run_ok (k := (runT l k big)) (big := big) hlX hn hlt).mono ?_
      rintro e w3 ⟨rfl, he3⟩
      rw [show runL l big (kindAt l big ((runT l k big) : Nat)) (runT l k big) = runF l (runT l k big) big from rfl, show runR l big (kindAt l big ((runT l k big) : Nat)) (runT l k big) = runT l (runT l k big) big from rfl]
      have hq3 := hq.ext he3
      have hr3 := hr.ext he3
      have hef3 := hef.trans he3
      have g0 := hr3.frozen 1
      have e0 := hr3.cell 0
      have e1 := hr3.cell 1
      have f0 := hq3.frozen 0
      have f1 := hq3.frozen 1
      have c4 := hq3.cell 0
      have c5 := hq3.cell 1
      simp only [List.getElem?_toArray, List.getElem?_cons_zero, List.getElem?_cons_succ] at c4 c5 e0 e1
      clear c0 c1
      have n1 : ¬ w1.heap.size = w.heap.size := by omega
      have n2 : ¬ w.heap.size = w1.heap.size := by omega
      have hfd := span_field1 (.int .i64 (runF l (runT l k big) big)) (.int .i64 (runT l (runT l k big) big)) w3
      go_wp2_with fail
      have hbf : Blk (((w3.setCell ⟨w1.heap.size, 1, none⟩ (.int .i64 (runT l (runT l k big) big))).setCell ⟨w.heap.size, 0, none⟩ (.int .i64 (runF l k big))).setCell ⟨w.heap.size, 1, none⟩ (.int .i64 (runT l (runT l k big) big))) w.heap.size 92 #[.int .i64 (runF l k big), .int .i64 (runT l (runT l k big) big)] := by
        simpa using ((hq3.keepCell2 (p := ⟨w1.heap.size, 1, none⟩) n1 (.int .i64 (runT l (runT l k big) big))).set_ 0 (.int .i64 (runF l k big))).set_ 1 (.int .i64 (runT l (runT l k big) big))
      have c6 := hbf.cell 0
      have c7 := hbf.cell 1
      simp only [List.getElem?_toArray, List.getElem?_cons_zero, List.getElem?_cons_succ] at c6 c7
      clear c4 c5 f0 f1 e0 e1 g0 hfd hbf
      refine bodyPost_ret (by simp [results, Try.results46, go_sem, c6, c7]; try rfl) rfl ?_
      exact ⟨by rw [HW.out] <;> rfl, ((hef3.setCell (p := ⟨w1.heap.size, 1, none⟩) (Nat.le_of_lt hw1) _).setCell (by simp) _).setCell (by simp) _⟩
    · have b1 : (kindF (gI l k) big == 0) = false := by simpa using hbl
      have HBL := Lib.hid hbl
      clear hbl
      go_wp2_with fail
      refine (wkind_ok2 _ _ _).mono ?_
      rintro e w3 ⟨rfl, rfl⟩
      by_cases hz : kindF (gI l (runT l k big)) big = 0
      · have b2 : (kindF (gI l (runT l k big)) big == 0) = true := by simpa using hz
        have HW : Hid (woF l k big = (runF l k big, runT l (runT l k big) big)) := Lib.hid (by unfold woF; rw [if_pos ⟨by rw [hlen.out]; exact hlt, .inr (by rw [HIN.out _ hlt]; exact hz)⟩])
        clear hz
        go_wp2_with fail
        refine (run_ok (k := (runT l k big)) (big := big) hlX hn hlt).mono ?_
        rintro e w3 ⟨rfl, he3⟩
        rw [show runL l big (kindAt l big ((runT l k big) : Nat)) (runT l k big) = runF l (runT l k big) big from rfl, show runR l big (kindAt l big ((runT l k big) : Nat)) (runT l k big) = runT l (runT l k big) big from rfl]
        have hq3 := hq.ext he3
        have hr3 := hr.ext he3
        have hef3 := hef.trans he3
        have g0 := hr3.frozen 1
        have e0 := hr3.cell 0
        have e1 := hr3.cell 1
        have f0 := hq3.frozen 0
        have f1 := hq3.frozen 1
        have c4 := hq3.cell 0
        have c5 := hq3.cell 1
        simp only [List.getElem?_toArray, List.getElem?_cons_zero, List.getElem?_cons_succ] at c4 c5 e0 e1
        clear c0 c1
        have n1 : ¬ w1.heap.size = w.heap.size := by omega
        have n2 : ¬ w.heap.size = w1.heap.size := by omega
        have hfd := span_field1 (.int .i64 (runF l (runT l k big) big)) (.int .i64 (runT l (runT l k big) big)) w3
        go_wp2_with fail
        have hbf : Blk (((w3.setCell ⟨w1.heap.size, 1, none⟩ (.int .i64 (runT l (runT l k big) big))).setCell ⟨w.heap.size, 0, none⟩ (.int .i64 (runF l k big))).setCell ⟨w.heap.size, 1, none⟩ (.int .i64 (runT l (runT l k big) big))) w.heap.size 92 #[.int .i64 (runF l k big), .int .i64 (runT l (runT l k big) big)] := by
          simpa using ((hq3.keepCell2 (p := ⟨w1.heap.size, 1, none⟩) n1 (.int .i64 (runT l (runT l k big) big))).set_ 0 (.int .i64 (runF l k big))).set_ 1 (.int .i64 (runT l (runT l k big) big))
        have c6 := hbf.cell 0
        have c7 := hbf.cell 1
        simp only [List.getElem?_toArray, List.getElem?_cons_zero, List.getElem?_cons_succ] at c6 c7
        clear c4 c5 f0 f1 e0 e1 g0 hfd hbf
        refine bodyPost_ret (by simp [results, Try.results46, go_sem, c6, c7]; try rfl) rfl ?_
        exact ⟨by rw [HW.out] <;> rfl, ((hef3.setCell (p := ⟨w1.heap.size, 1, none⟩) (Nat.le_of_lt hw1) _).setCell (by simp) _).setCell (by simp) _⟩
      · have b2 : (kindF (gI l (runT l k big)) big == 0) = false := by simpa using hz
        have HNO : Hid (¬ (runT l k big < l.length ∧ (kindAt l big k = 0 ∨ kindAt l big (runT l k big) = 0))) := Lib.hid (fun h => by
          rcases h.2 with h | h
          · exact HBL.out (by rw [← hkk.out]; exact h)
          · exact hz (by rw [← HIN.out _ hlt]; exact h))
        clear hz
        have HW0 : Hid (woF l k big = if kindAt l big k ≠ 0 ∧ 0 < runF l k big ∧ kindAt l big (runF l k big - 1 : Nat) = 0 then (runF l (runF l k big - 1) big, runT l k big) else (runF l k big, runT l k big)) := Lib.hid (by unfold woF; rw [if_neg HNO.out])
        rcases Nat.eq_zero_or_pos (runF l k big) with hF | hF
        · have HW : Hid (woF l k big = (0, runT l k big)) := Lib.hid (by rw [HW0.out, if_neg (fun h => by omega), hF])
          rw [hF] at c0 hr
          have c0z : w2.cell? ⟨w1.heap.size, 0, none⟩ = some (.int .i64 0) := c0
          clear c0 hF
          have c0 := c0z
          clear c0z
          have f0 := hq.frozen 0
          have f1 := hq.frozen 1
          have c4 := hq.cell 0
          have c5 := hq.cell 1
          simp only [List.getElem?_toArray, List.getElem?_cons_zero, List.getElem?_cons_succ] at c4 c5
          go_wp2_with fail
          have hbf : Blk ((w2.setCell ⟨w.heap.size, 0, none⟩ (.int .i64 0)).setCell ⟨w.heap.size, 1, none⟩ (.int .i64 (runT l k big))) w.heap.size 92 #[.int .i64 0, .int .i64 (runT l k big)] := by
            simpa using (hq.set_ 0 (.int .i64 0)).set_ 1 (.int .i64 (runT l k big))
          have c6 := hbf.cell 0
          have c7 := hbf.cell 1
          simp only [List.getElem?_toArray, List.getElem?_cons_zero, List.getElem?_cons_succ] at c6 c7
          clear c4 c5 f0 f1 c0 c1 hbf
          refine bodyPost_ret (by simp [results, Try.results46, go_sem, c6, c7]; try rfl) rfl ?_
          exact ⟨by rw [HW.out] <;> rfl, (hef.setCell (by simp) _).setCell (by simp) _⟩
        · obtain ⟨g, hg⟩ : ∃ g, runF l k big = g + 1 := ⟨runF l k big - 1, by omega⟩
          have hgn : g < n := by omega
          have dG := hef.cell (HC.out g hgn)
          rw [hg] at c0 hr
          have HG := Lib.hid hg
          clear hg hF
          go_wp2_with fail
          refine (wkind_ok2 _ _ _).mono ?_
          rintro e w3 ⟨rfl, rfl⟩
          by_cases hz : kindF (gI l g) big = 0
          · have b3 : (kindF (gI l g) big == 0) = true := by simpa using hz
            have HW : Hid (woF l k big = (runF l g big, runT l k big)) := Lib.hid (by
              rw [HW0.out, HG.out, Nat.add_sub_cancel, if_pos ⟨by rw [hkk.out]; exact HBL.out, by omega, by rw [HIN.out g hgn]; exact hz⟩])
            clear hz
            go_wp2_with fail
            refine (run_ok (k := g) (big := big) hlX hn hgn).mono ?_
            rintro e w3 ⟨rfl, he3⟩
            rw [show runL l big (kindAt l big (g : Nat)) g = runF l g big from rfl, show runR l big (kindAt l big (g : Nat)) g = runT l g big from rfl]
            have hq3 := hq.ext he3
            have hr3 := hr.ext he3
            have hef3 := hef.trans he3
            have g0 := hr3.frozen 0
            have e0 := hr3.cell 0
            have e1 := hr3.cell 1
            have f0 := hq3.frozen 0
            have f1 := hq3.frozen 1
            have c4 := hq3.cell 0
            have c5 := hq3.cell 1
            simp only [List.getElem?_toArray, List.getElem?_cons_zero, List.getElem?_cons_succ] at c4 c5 e0 e1
            clear c0 c1
            have n1 : ¬ w1.heap.size = w.heap.size := by omega
            have n2 : ¬ w.heap.size = w1.heap.size := by omega
            have hfd := span_field0 (.int .i64 (runF l g big)) (.int .i64 (runT l g big)) w3
            go_wp2_with fail
            have hbf : Blk (((w3.setCell ⟨w1.heap.size, 0, none⟩ (.int .i64 (runF l g big))).setCell ⟨w.heap.size, 0, none⟩ (.int .i64 (runF l g big))).setCell ⟨w.heap.size, 1, none⟩ (.int .i64 (runT l k big))) w.heap.size 92 #[.int .i64 (runF l g big), .int .i64 (runT l k big)] := by
              simpa using ((hq3.keepCell2 (p := ⟨w1.heap.size, 0, none⟩) n1 (.int .i64 (runF l g big))).set_ 0 (.int .i64 (runF l g big))).set_ 1 (.int .i64 (runT l k big))
            have c6 := hbf.cell 0
            have c7 := hbf.cell 1
            simp only [List.getElem?_toArray, List.getElem?_cons_zero, List.getElem?_cons_succ] at c6 c7
            clear c4 c5 f0 f1 e0 e1 g0 hfd hbf
            refine bodyPost_ret (by simp [results, Try.results46, go_sem, c6, c7]; try rfl) rfl ?_
            exact ⟨by rw [HW.out] <;> rfl, ((hef3.setCell (p := ⟨w1.heap.size, 0, none⟩) (Nat.le_of_lt hw1) _).setCell (by simp) _).setCell (by simp) _⟩
          · have b3 : (kindF (gI l g) big == 0) = false := by simpa using hz
            have HW : Hid (woF l k big = (g + 1, runT l k big)) := Lib.hid (by
              rw [HW0.out, HG.out, Nat.add_sub_cancel, if_neg (fun h => hz (by rw [← HIN.out g hgn]; exact h.2.2))])
            clear hz
            have f0 := hq.frozen 0
            have f1 := hq.frozen 1
            have c4 := hq.cell 0
            have c5 := hq.cell 1
            simp only [List.getElem?_toArray, List.getElem?_cons_zero, List.getElem?_cons_succ] at c4 c5
            go_wp2_with fail
            have hbf : Blk ((w2.setCell ⟨w.heap.size, 0, none⟩ (.int .i64 ((g : Int) + 1))).setCell ⟨w.heap.size, 1, none⟩ (.int .i64 (runT l k big))) w.heap.size 92 #[.int .i64 ((g : Int) + 1), .int .i64 (runT l k big)] := by
              simpa using (hq.set_ 0 (.int .i64 ((g : Int) + 1))).set_ 1 (.int .i64 (runT l k big))
            have c6 := hbf.cell 0
            have c7 := hbf.cell 1
            simp only [List.getElem?_toArray, List.getElem?_cons_zero, List.getElem?_cons_succ] at c6 c7
            clear c4 c5 f0 f1 c0 c1 hbf
            refine bodyPost_ret (by simp [results, Try.results46, go_sem, c6, c7]; try rfl) rfl ?_
            exact ⟨by rw [HW.out] <;> rfl, (hef.setCell (by simp) _).setCell (by simp) _⟩
  · have HNO : Hid (¬ (runT l k big < l.length ∧ (kindAt l big k = 0 ∨ kindAt l big (runT l k big) = 0))) := Lib.hid (fun h => by rw [hlen.out] at h; omega)
    by_cases hbl : kindF (gI l k) big = 0
    · have b1 : (kindF (gI l k) big == 0) = true := by simpa using hbl
      have HW : Hid (woF l k big = (runF l k big, runT l k big)) := Lib.hid (by unfold woF; rw [if_neg HNO.out, if_neg (fun h => h.1 (by rw [hkk.out]; exact hbl))])
      clear hbl
      have f0 := hq.frozen 0
      have f1 := hq.frozen 1
      have c4 := hq.cell 0
      have c5 := hq.cell 1
      simp only [List.getElem?_toArray, List.getElem?_cons_zero, List.getElem?_cons_succ] at c4 c5
      go_wp2_with fail
      have hbf : Blk ((w2.setCell ⟨w.heap.size, 0, none⟩ (.int .i64 (runF l k big))).setCell ⟨w.heap.size, 1, none⟩ (.int .i64 (runT l k big))) w.heap.size 92 #[.int .i64 (runF l k big), .int .i64 (runT l k big)] := by
        simpa using (hq.set_ 0 (.int .i64 (runF l k big))).set_ 1 (.int .i64 (runT l k big))
      have c6 := hbf.cell 0
      have c7 := hbf.cell 1
      simp only [List.getElem?_toArray, List.getElem?_cons_zero, List.getElem?_cons_succ] at c6 c7
      clear c4 c5 f0 f1 c0 c1 hbf
      refine bodyPost_ret (by simp [results, Try.results46, go_sem, c6, c7]; try rfl) rfl ?_
      exact ⟨by rw [HW.out] <;> rfl, (hef.setCell (by simp) _).setCell (by simp) _⟩
    · have b1 : (kindF (gI l k) big == 0) = false := by simpa using hbl
      have HBL := Lib.hid hbl
      clear hbl
      have HW0 : Hid (woF l k big = if kindAt l big k ≠ 0 ∧ 0 < runF l k big ∧ kindAt l big (runF l k big - 1 : Nat) = 0 then (runF l (runF l k big - 1) big, runT l k big) else (runF l k big, runT l k big)) := Lib.hid (by unfold woF; rw [if_neg HNO.out])
      rcases Nat.eq_zero_or_pos (runF l k big) with hF | hF
      · have HW : Hid (woF l k big = (0, runT l k big)) := Lib.hid (by rw [HW0.out, if_neg (fun h => by omega), hF])
        rw [hF] at c0 hr
        have c0z : w2.cell? ⟨w1.heap.size, 0, none⟩ = some (.int .i64 0) := c0
        clear c0 hF
        have c0 := c0z
        clear c0z
        have f0 := hq.frozen 0
        have f1 := hq.frozen 1
        have c4 := hq.cell 0
        have c5 := hq.cell 1
        simp only [List.getElem?_toArray, List.getElem?_cons_zero, List.getElem?_cons_succ] at c4 c5
        go_wp2_with fail
        have hbf : Blk ((w2.setCell ⟨w.heap.size, 0, none⟩ (.int .i64 0)).setCell ⟨w.heap.size, 1, none⟩ (.int .i64 (runT l k big))) w.heap.size 92 #[.int .i64 0, .int .i64 (runT l k big)] := by
          simpa using (hq.set_ 0 (.int .i64 0)).set_ 1 (.int .i64 (runT l k big))
        have c6 := hbf.cell 0
        have c7 := hbf.cell 1
        simp only [List.getElem?_toArray, List.getElem?_cons_zero, List.getElem?_cons_succ] at c6 c7
        clear c4 c5 f0 f1 c0 c1 hbf
        refine bodyPost_ret (by simp [results, Try.results46, go_sem, c6, c7]; try rfl) rfl ?_
        exact ⟨by rw [HW.out] <;> rfl, (hef.setCell (by simp) _).setCell (by simp) _⟩
      · obtain ⟨g, hg⟩ : ∃ g, runF l k big = g + 1 := ⟨runF l k big - 1, by omega⟩
        have hgn : g < n := by omega
        have dG := hef.cell (HC.out g hgn)
        rw [hg] at c0 hr
        have HG := Lib.hid hg
        clear hg hF
        go_wp2_with fail
        refine (wkind_ok2 _ _ _).mono ?_
        rintro e w3 ⟨rfl, rfl⟩
        by_cases hz : kindF (gI l g) big = 0
        · have b3 : (kindF (gI l g) big == 0) = true := by simpa using hz
          have HW : Hid (woF l k big = (runF l g big, runT l k big)) := Lib.hid (by
            rw [HW0.out, HG.out, Nat.add_sub_cancel, if_pos ⟨by rw [hkk.out]; exact HBL.out, by omega, by rw [HIN.out g hgn]; exact hz⟩])
          clear hz
          go_wp2_with fail
          refine (run_ok (k := g) (big := big) hlX hn hgn).mono ?_
          rintro e w3 ⟨rfl, he3⟩
          rw [show runL l big (kindAt l big (g : Nat)) g = runF l g big from rfl, show runR l big (kindAt l big (g : Nat)) g = runT l g big from rfl]
          have hq3 := hq.ext he3
          have hr3 := hr.ext he3
          have hef3 := hef.trans he3
          have g0 := hr3.frozen 0
          have e0 := hr3.cell 0
          have e1 := hr3.cell 1
          have f0 := hq3.frozen 0
          have f1 := hq3.frozen 1
          have c4 := hq3.cell 0
          have c5 := hq3.cell 1
          simp only [List.getElem?_toArray, List.getElem?_cons_zero, List.getElem?_cons_succ] at c4 c5 e0 e1
          clear c0 c1
          have n1 : ¬ w1.heap.size = w.heap.size := by omega
          have n2 : ¬ w.heap.size = w1.heap.size := by omega
          have hfd := span_field0 (.int .i64 (runF l g big)) (.int .i64 (runT l g big)) w3
          go_wp2_with fail
          have hbf : Blk (((w3.setCell ⟨w1.heap.size, 0, none⟩ (.int .i64 (runF l g big))).setCell ⟨w.heap.size, 0, none⟩ (.int .i64 (runF l g big))).setCell ⟨w.heap.size, 1, none⟩ (.int .i64 (runT l k big))) w.heap.size 92 #[.int .i64 (runF l g big), .int .i64 (runT l k big)] := by
            simpa using ((hq3.keepCell2 (p := ⟨w1.heap.size, 0, none⟩) n1 (.int .i64 (runF l g big))).set_ 0 (.int .i64 (runF l g big))).set_ 1 (.int .i64 (runT l k big))
          have c6 := hbf.cell 0
          have c7 := hbf.cell 1
          simp only [List.getElem?_toArray, List.getElem?_cons_zero, List.getElem?_cons_succ] at c6 c7
          clear c4 c5 f0 f1 e0 e1 g0 hfd hbf
          refine bodyPost_ret (by simp [results, Try.results46, go_sem, c6, c7]; try rfl) rfl ?_
          exact ⟨by rw [HW.out] <;> rfl, ((hef3.setCell (p := ⟨w1.heap.size, 0, none⟩) (Nat.le_of_lt hw1) _).setCell (by simp) _).setCell (by simp) _⟩
        · have b3 : (kindF (gI l g) big == 0) = false := by simpa using hz
          have HW : Hid (woF l k big = (g + 1, runT l k big)) := Lib.hid (by
            rw [HW0.out, HG.out, Nat.add_sub_cancel, if_neg (fun h => hz (by rw [← HIN.out g hgn]; exact h.2.2))])
          clear hz
          have f0 := hq.frozen 0
          have f1 := hq.frozen 1
          have c4 := hq.cell 0
          have c5 := hq.cell 1
          simp only [List.getElem?_toArray, List.getElem?_cons_zero, List.getElem?_cons_succ] at c4 c5
          go_wp2_with fail
          have hbf : Blk ((w2.setCell ⟨w.heap.size, 0, none⟩ (.int .i64 ((g : Int) + 1))).setCell ⟨w.heap.size, 1, none⟩ (.int .i64 (runT l k big))) w.heap.size 92 #[.int .i64 ((g : Int) + 1), .int .i64 (runT l k big)] := by
            simpa using (hq.set_ 0 (.int .i64 ((g : Int) + 1))).set_ 1 (.int .i64 (runT l k big))
          have c6 := hbf.cell 0
          have c7 := hbf.cell 1
          simp only [List.getElem?_toArray, List.getElem?_cons_zero, List.getElem?_cons_succ] at c6 c7
          clear c4 c5 f0 f1 c0 c1 hbf
          refine bodyPost_ret (by simp [results, Try.results46, go_sem, c6, c7]; try rfl) rfl ?_
          exact ⟨by rw [HW.out] <;> rfl, (hef.setCell (by simp) _).setCell (by simp) _⟩
end Go.Proofs.Ytmhgndjmcignjaa
