/-
  object.brackets with what is around: the walk.
-/
import Derived.Test.YtkjlgfokgpdliaaObjM
namespace Go.Proofs.Ytkjlgfokgpdliaa
open Go.RowKit
set_option linter.unusedVariables false

set_option maxHeartbeats 2000000 in
theorem bracketsA_ok {l : List Int} {A : Option Addr} {n c : Nat} {k : Nat} {o : Int} {w : World} (hl : Ints w A n c l) (wl : ∀ x ∈ l, (Lit.int .i64 x).wf = true) (hn : n ≤ 4096) (hk : k = 0 ∨ k < n) :
    Calls Try.prog 28 #[.slice A n c, .int .i64 k, .bool true, .int .i64 o] w fun e w' => ((∃ i b : Nat, found l k o i b ∧ e = .returned (.tuple #[.agg #[.int .i64 i, .int .i64 ((b : Int) + 1)], .int .i64 0])) ∨
      (nofound l k o ∧ e = .returned (.tuple #[.agg #[.int .i64 0, .int .i64 0], .int .i64 6]))) ∧ Ext w w' := by
  have hnc := hl.ncap
  have hcm := hl.nmax
  have hlen := Lib.hid hl.len
  unfold maxLen at hcm
  have HP := Lib.hid (pairs_ints (hl.ext (Ext.alloc w (.cells #[.int .i64 0, .int .i64 0] 53))) wl hn)
  clear wl
  go_enter Try.func28, Try.ntmps28
  go_wp2_with fail
  refine HP.out.mono ?_
  rintro e w1 ⟨B, rfl, hB, he1⟩
  have hb0 := (Blk.new w 53 #[.int .i64 0, .int .i64 0]).ext he1
  have he := (Ext.alloc w (.cells #[.int .i64 0, .int .i64 0] 53)).trans he1
  have hl1 := hl.ext he
  clear HP he1 hl
  have HF : Hid (∀ q : Nat, q < n → (k : Int) ≤ gI (pairsF l) q → ∃ b : Nat, gI (pairsF l) q = b ∧ b < l.length) := Lib.hid (fun q hq h => by
    rcases opairs_says (l := l) (i := q) (by rw [hlen.out]; exact hq) with h1 | ⟨b, h1, h2, _⟩
    · omega
    · exact ⟨b, h1, h2⟩)
  rcases Nat.eq_zero_or_pos n with hn0 | hn0
  · subst hn0
    obtain rfl : k = 0 := by omega
    go_wp2_with fail
    go_loopw [12] (fun i wr => ∃ m : Nat, m ≤ 0 ∧ i = .int .i64 ((m : Int) - 1) ∧ wr = w1) (fun i _ => (intOf i + 1).toNat)
    case atStart =>
      exact ⟨0, by omega, by rfl, rfl⟩
    case round =>
      obtain ⟨m, hm1, rfl, rfl⟩ := hrel
      obtain rfl : m = 0 := by omega
      have f0 := hb0.frozen 0
      have f1 := hb0.frozen 1
      have c4 := hb0.cell 0
      have c5 := hb0.cell 1
      simp only [List.getElem?_toArray, List.getElem?_cons_zero, List.getElem?_cons_succ] at c4 c5
      go_wp2_with fail
      have hbf : Blk ((wr.setCell ⟨w.heap.size, 0, none⟩ (.int .i64 0)).setCell ⟨w.heap.size, 1, none⟩ (.int .i64 0)) w.heap.size 53 #[.int .i64 0, .int .i64 0] := by
        simpa using (hb0.set_ 0 (.int .i64 0)).set_ 1 (.int .i64 0)
      have c6 := hbf.cell 0
      have c7 := hbf.cell 1
      simp only [List.getElem?_toArray, List.getElem?_cons_zero, List.getElem?_cons_succ] at c6 c7
      clear c4 c5 f0 f1
      refine bodyPost_ret (by simp [results, Try.results28, go_sem, c6, c7]; try rfl) rfl ?_
      exact ⟨.inr ⟨fun j h1 h2 => absurd h2 (by rw [hlen.out]; omega), rfl⟩, (he.setCell (by simp) _).setCell (by simp) _⟩
  · have hkn : (k : Int) ≤ n - 1 := by omega
    go_wp2_with fail
    go_loopw [12] (fun i wr => ∃ m : Nat, m ≤ k + 1 ∧ m ≤ n ∧ i = .int .i64 ((m : Int) - 1) ∧ Hid (∀ j, m ≤ j → j ≤ k → j < l.length → gI l j = o → gI (pairsF l) j < k) ∧ wr = w1) (fun i _ => (intOf i + 1).toNat)
    case atStart =>
      exact ⟨k + 1, by omega, by omega, by congr 1; omega, fun j h1 h2 h3 => absurd h2 (by omega), rfl⟩
    case round =>
      obtain ⟨m, hm1, hm2, rfl, hall, rfl⟩ := hrel
      rcases Nat.eq_zero_or_pos m with h0 | h0
      · subst h0
        have f0 := hb0.frozen 0
        have f1 := hb0.frozen 1
        have c4 := hb0.cell 0
        have c5 := hb0.cell 1
        simp only [List.getElem?_toArray, List.getElem?_cons_zero, List.getElem?_cons_succ] at c4 c5
        go_wp2_with fail
        have hbf : Blk ((wr.setCell ⟨w.heap.size, 0, none⟩ (.int .i64 0)).setCell ⟨w.heap.size, 1, none⟩ (.int .i64 0)) w.heap.size 53 #[.int .i64 0, .int .i64 0] := by
          simpa using (hb0.set_ 0 (.int .i64 0)).set_ 1 (.int .i64 0)
        have c6 := hbf.cell 0
        have c7 := hbf.cell 1
        simp only [List.getElem?_toArray, List.getElem?_cons_zero, List.getElem?_cons_succ] at c6 c7
        clear c4 c5 f0 f1
        refine bodyPost_ret (by simp [results, Try.results28, go_sem, c6, c7]; try rfl) rfl ?_
        exact ⟨.inr ⟨fun j h1 => hall.out j (Nat.zero_le _) h1, rfl⟩, (he.setCell (by simp) _).setCell (by simp) _⟩
      · obtain ⟨q, rfl⟩ : ∃ q, m = q + 1 := ⟨m - 1, by omega⟩
        rw [show (((q + 1 : Nat) : Int) - 1) = (q : Int) by omega]
        have hq : q < n := by omega
        obtain ⟨a1, rfl, hc1⟩ := hl1.at_ hq
        obtain ⟨a2, rfl, hc2⟩ := hB.at_ hq
        have d1 := hc1 q hq
        have d2 := hc2 q hq
        clear hc1 hc2
        have hnx : Hid ((gI l q = o → gI (pairsF l) q < k) → ∀ j, q ≤ j → j ≤ k → j < l.length → gI l j = o → gI (pairsF l) j < k) := Lib.hid (fun hh j h1 h2 h3 h4 => by
          rcases Nat.lt_or_ge q j with h5 | h5
          · exact hall.out j (by omega) h2 h3 h4
          · obtain rfl : j = q := by omega
            exact hh h4)
        by_cases heq : gI l q = o
        · have b1 : (gI l q == o) = true := by simpa using heq
          have HQ := Lib.hid heq
          clear heq
          by_cases hge : (k : Int) ≤ gI (pairsF l) q
          · obtain ⟨b, hb1, hb2⟩ := HF.out q hq hge
            have HB := Lib.hid hb1
            have hbn : b < n := by rw [← hlen.out]; exact hb2
            rw [hb1] at d2 hge
            clear hb1
            have f0 := hb0.frozen 0
            have f1 := hb0.frozen 1
            have c4 := hb0.cell 0
            have c5 := hb0.cell 1
            simp only [List.getElem?_toArray, List.getElem?_cons_zero, List.getElem?_cons_succ] at c4 c5
            go_wp2_with fail
            have hbf : Blk ((wr.setCell ⟨w.heap.size, 0, none⟩ (.int .i64 (q : Int))).setCell ⟨w.heap.size, 1, none⟩ (.int .i64 ((b : Int) + 1))) w.heap.size 53 #[.int .i64 q, .int .i64 ((b : Int) + 1)] := by
              simpa using (hb0.set_ 0 (.int .i64 (q : Int))).set_ 1 (.int .i64 ((b : Int) + 1))
            have c6 := hbf.cell 0
            have c7 := hbf.cell 1
            simp only [List.getElem?_toArray, List.getElem?_cons_zero, List.getElem?_cons_succ] at c6 c7
            clear c4 c5 f0 f1
            refine bodyPost_ret (by simp [results, Try.results28, go_sem, c6, c7]; try rfl) rfl ?_
            exact ⟨.inl ⟨q, b, ⟨by omega, by rw [hlen.out]; exact hq, HQ.out, HB.out, by omega, hb2, fun j h1 h2 h3 h4 => hall.out j h1 h2 h3 h4⟩, rfl⟩, (he.setCell (by simp) _).setCell (by simp) _⟩
          · have hlt : gI (pairsF l) q < k := by omega
            have HL := Lib.hid hlt
            clear hge
            go_wp2_with fail
            exact ⟨⟨q, by omega, by omega, by go_num, hnx.out (fun _ => HL.out), trivial⟩, by simp [intOf] <;> omega⟩
        · have b1 : (gI l q == o) = false := by simpa using heq
          have HQ := Lib.hid heq
          clear heq
          go_wp2_with fail
          exact ⟨⟨q, by omega, by omega, by go_num, hnx.out (fun h => absurd h HQ.out), trivial⟩, by simp [intOf] <;> omega⟩
end Go.Proofs.Ytkjlgfokgpdliaa
