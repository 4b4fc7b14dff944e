/-
  object.Of at brackets: the plain law, and the walks of brackets and Of.
-/
import Derived.Test.YtmhgndjmcignjaaZJ5
import Derived.IntWalk

namespace Go.Proofs.Ytmhgndjmcignjaa
open Go.RowKit
set_option linter.unusedVariables false
set_option linter.unusedSimpArgs false

theorem opairs_says {l : List Int} {i : Nat} (hi : i < l.length) : gI (pairsF l) i = -1 ∨ ∃ k : Nat, gI (pairsF l) i = k ∧ k < l.length ∧ gI (pairsF l) k = i ∧ k ≠ i ∧ othF (gI l i) = gI l k ∧ cloF (gI l i) = decide (k < i) ∧ othF (gI l i) ≠ 0 := by
  rcases (drun_DI l l.length).part i hi with h | ⟨m, h1, h2, h3⟩
  · exact .inl (by rw [pairsF_at hi]; exact h)
  · exact .inr ⟨m, by rw [pairsF_at hi]; exact h1, h2, by rw [pairsF_at h2]; exact h3.1, h3.2⟩
theorem opairs_nest {l : List Int} {i a k b : Nat} (hi : i < k) (hk : k < a) (hb : k < b) (hl : b < l.length) (ha : a < l.length) (h1 : gI (pairsF l) i = a) (h2 : gI (pairsF l) k = b) (he : gI l i = gI l k) : b < a := by
  rw [pairsF_at (by omega)] at h1 h2
  exact (drun_DI l l.length).nest i a k b (by omega) ha hb hl h1 h2 he hi hk

/-- A partner once found stays. -/
theorem drun_keep {l : List Int} {t x : Nat} (hx : x < t) (h : (drun l t).2 x ≠ -1) : (drun l (t + 1)).2 x = (drun l t).2 x := by
  show (dstep (gI l t) t (drun l t)).2 x = _
  by_cases h1 : othF (gI l t) = 0
  · rw [dstep_plain h1]; exact if_neg (by omega)
  · cases hc : cloF (gI l t) with
    | false => rw [dstep_push h1 hc]; exact if_neg (by omega)
    | true =>
      cases he : ((drun l t).1 (othF (gI l t))).getLast? with
      | none => rw [dstep_miss h1 hc (List.getLast?_eq_none_iff.1 he)]; exact if_neg (by omega)
      | some k =>
        rw [dstep_pop h1 hc he]
        have hk := (drun_DI l t).mem (othF (gI l t)) k (List.mem_of_getLast? he)
        show (if x = k then (t : Int) else if x = t then (k : Int) else (drun l t).2 x) = _
        rw [if_neg (fun e => h (by rw [e]; exact hk.2.2.2.2)), if_neg (by omega)]
theorem drun_stays {l : List Int} {t x : Nat} (hx : x < t) (h : (drun l t).2 x ≠ -1) : ∀ d, (drun l (t + d)).2 x = (drun l t).2 x
  | 0 => rfl
  | d + 1 => by
    have := drun_stays hx h d
    rw [show t + (d + 1) = (t + d) + 1 by omega, drun_keep (by omega) (by rw [this]; exact h), this]

/-- All brackets of a pair's kind within the pair have their partners there. -/
theorem inside {l : List Int} {i j b : Nat} (hb : b < l.length) (hij : i < j) (hjb : j < b) (hp : gI (pairsF l) i = b) (hc : gI l j = gI l i ∨ gI l j = gI l b) : (i : Int) + 1 ≤ gI (pairsF l) j ∧ gI (pairsF l) j < b := by
  rcases opairs_says (show i < l.length by omega) with h | ⟨b', e1, e2, e3, e4, e5, e6, e7⟩
  · omega
  obtain rfl : b' = b := by omega
  have hop : cloF (gI l i) = false := by rw [e6]; simp; omega
  have hpi : (drun l l.length).2 i = (b' : Int) := by rw [← pairsF_at (by omega)]; exact hp
  rcases opairs_says (show j < l.length by omega) with h | ⟨m, f1, f2, f3, f4, f5, f6, f7⟩
  · exfalso
    have hpj : (drun l l.length).2 j = -1 := by rw [← pairsF_at (by omega)]; exact h
    rcases hc with hc | hc
    · have := (drun_DI l l.length).none_ j (by omega) hpj (by rw [hc]; exact e7) (by rw [hc]; exact hop)
      rw [hc] at this
      have := (drun_DI l l.length).apart i b' (by omega) hb hpi j this
      omega
    · -- a closer: i lies on the stack
      have ho : othF (gI l j) = gI l i := by rw [hc, ← e5]; exact oth_oth e7
      have hcl : cloF (gI l j) = true := by rw [hc, ← e5, clo_oth e7, hop]; rfl
      have hi1 : (drun l j).2 i = -1 := by
        refine Classical.byContradiction fun hne => ?_
        have h2 := drun_stays (l := l) (t := j) (x := i) hij hne (l.length - j)
        rw [show j + (l.length - j) = l.length by omega, hpi] at h2
        rcases (drun_DI l j).part i hij with h3 | ⟨m, h3, h4, _⟩
        · exact hne h3
        · omega
      have hst := (drun_DI l j).none_ i hij hi1 e7 hop
      have hne0 : othF (gI l j) ≠ 0 := by rw [ho]; intro e; rw [e] at e7; exact e7 (by decide)
      cases he : ((drun l j).1 (othF (gI l j))).getLast? with
      | none =>
        rw [List.getLast?_eq_none_iff, ho] at he
        rw [he] at hst
        cases hst
      | some k =>
        have h5 : (drun l (j + 1)).2 j = (k : Int) := by
          show (dstep (gI l j) j (drun l j)).2 j = _
          rw [dstep_pop hne0 hcl he]
          have hk := (drun_DI l j).mem (othF (gI l j)) k (List.mem_of_getLast? he)
          show (if j = k then (j : Int) else if j = j then (k : Int) else (drun l j).2 j) = _
          rw [if_neg (by omega), if_pos rfl]
        have h6 := drun_stays (l := l) (t := j + 1) (x := j) (by omega) (by rw [h5]; omega) (l.length - (j + 1))
        rw [show j + 1 + (l.length - (j + 1)) = l.length by omega, h5] at h6
        omega
  · rcases hc with hc | hc
    · have hjm : j < m := by
        rw [hc, hop] at f6
        have := of_decide_eq_false f6.symm
        omega
      have := opairs_nest hij hjb hjm f2 hb hp f1 hc.symm
      omega
    · have hmj : m < j := by
        rw [hc, ← e5, clo_oth e7, hop] at f6
        exact of_decide_eq_true f6.symm
      have hm : gI l m = gI l i := by rw [← f5, hc, ← e5]; exact oth_oth e7
      rcases Nat.lt_trichotomy m i with h | h | h
      · have := opairs_nest h hij (show i < b' by omega) hb (by omega) f3 hp hm
        omega
      · subst h; omega
      · omega

/-- The pair around a place. -/
def found (l : List Int) (k : Nat) (o : Int) (i b : Nat) : Prop :=
  i ≤ k ∧ i < l.length ∧ gI l i = o ∧ gI (pairsF l) i = b ∧ k ≤ b ∧ b < l.length ∧ ∀ j, i < j → j ≤ k → j < l.length → gI l j = o → gI (pairsF l) j < k
def nofound (l : List Int) (k : Nat) (o : Int) : Prop := ∀ j, j ≤ k → j < l.length → gI l j = o → gI (pairsF l) j < k

set_option maxRecDepth 20000 in
set_option maxHeartbeats 2000000 in
theorem brackets_ok {l : List Int} {A : Option Addr} {n c : Nat} {k : Nat} {o : Int} {w : World} (hl : Ints w A n c l) (wl : ∀ x ∈ l, (Lit.int .i64 x).wf = true) (hn : n ≤ 4096) (hk : k = 0 ∨ k < n) :
    Calls Try.prog 47 #[.slice A n c, .int .i64 k, .bool false, .int .i64 o] w fun e w' => ((∃ i b : Nat, found l k o i b ∧ e = .returned (.tuple #[.agg #[.int .i64 ((i : Int) + 1), .int .i64 b], .int .i64 0])) ∨
      (nofound l k o ∧ e = .returned (.tuple #[.agg #[.int .i64 0, .int .i64 0], .int .i64 6]))) ∧ Ext w w' := by
  have hnc := hl.ncap
  have hcm := hl.nmax
  have hlen := Lib.hid hl.len
  unfold maxLen at hcm
  have HP := Lib.hid (pairs_ints (hl.ext (Ext.alloc w (.cells #[.int .i64 0, .int .i64 0] 92))) wl hn)
  clear wl
  go_enter Try.func47, Try.ntmps47
  go_wp2_with fail
  refine HP.out.mono ?_
  rintro e w1 ⟨B, rfl, hB, he1⟩
  have hb0 := (Blk.new w 92 #[.int .i64 0, .int .i64 0]).ext he1
  have he := (Ext.alloc w (.cells #[.int .i64 0, .int .i64 0] 92)).trans he1
  have hl1 := hl.ext he
  clear HP he1 hl
  have HF : Hid (∀ q : Nat, q < n → (k : Int) ≤ gI (pairsF l) q → ∃ b : Nat, gI (pairsF l) q = b ∧ b < l.length) := Lib.hid (fun q hq h => by
    rcases opairs_says (l := l) (i := q) (by rw [hlen.out]; exact hq) with h1 | ⟨b, h1, h2, _⟩
    · omega
    · exact ⟨b, h1, h2⟩)
  rcases Nat.eq_zero_or_pos n with hn0 | hn0
  · subst hn0
    obtain rfl : k = 0 := by omega
    go_wp2_with fail
    go_loopw [12] (fun i wr => ∃ m : Nat, m ≤ 0 ∧ i = .int .i64 ((m : Int) - 1) ∧ wr = w1) (fun i _ => (intOf i + 1).toNat)
    case atStart =>
      exact ⟨0, by omega, by rfl, rfl⟩
    case round =>
      obtain ⟨m, hm1, rfl, rfl⟩ := hrel
      obtain rfl : m = 0 := by omega
      have f0 := hb0.frozen 0
      have f1 := hb0.frozen 1
      have c4 := hb0.cell 0
      have c5 := hb0.cell 1
      simp only [List.getElem?_toArray, List.getElem?_cons_zero, List.getElem?_cons_succ] at c4 c5
      go_wp2_with fail
      have hbf : Blk ((wr.setCell ⟨w.heap.size, 0, none⟩ (.int .i64 0)).setCell ⟨w.heap.size, 1, none⟩ (.int .i64 0)) w.heap.size 92 #[.int .i64 0, .int .i64 0] := by
        simpa using (hb0.set_ 0 (.int .i64 0)).set_ 1 (.int .i64 0)
      have c6 := hbf.cell 0
      have c7 := hbf.cell 1
      simp only [List.getElem?_toArray, List.getElem?_cons_zero, List.getElem?_cons_succ] at c6 c7
      clear c4 c5 f0 f1
      refine bodyPost_ret (by simp [results, Try.results47, go_sem, c6, c7]; try rfl) rfl ?_
      exact ⟨.inr ⟨fun j h1 h2 => absurd h2 (by rw [hlen.out]; omega), rfl⟩, (he.setCell (by simp) _).setCell (by simp) _⟩
  · have hkn : (k : Int) ≤ n - 1 := by omega
    go_wp2_with fail
    go_loopw [12] (fun i wr => ∃ m : Nat, m ≤ k + 1 ∧ m ≤ n ∧ i = .int .i64 ((m : Int) - 1) ∧ Hid (∀ j, m ≤ j → j ≤ k → j < l.length → gI l j = o → gI (pairsF l) j < k) ∧ wr = w1) (fun i _ => (intOf i + 1).toNat)
    case atStart =>
      exact ⟨k + 1, by omega, by omega, by congr 1; omega, fun j h1 h2 h3 => absurd h2 (by omega), rfl⟩
    case round =>
      obtain ⟨m, hm1, hm2, rfl, hall, rfl⟩ := hrel
      rcases Nat.eq_zero_or_pos m with h0 | h0
      · subst h0
        have f0 := hb0.frozen 0
        have f1 := hb0.frozen 1
        have c4 := hb0.cell 0
        have c5 := hb0.cell 1
        simp only [List.getElem?_toArray, List.getElem?_cons_zero, List.getElem?_cons_succ] at c4 c5
        go_wp2_with fail
        have hbf : Blk ((wr.setCell ⟨w.heap.size, 0, none⟩ (.int .i64 0)).setCell ⟨w.heap.size, 1, none⟩ (.int .i64 0)) w.heap.size 92 #[.int .i64 0, .int .i64 0] := by
          simpa using (hb0.set_ 0 (.int .i64 0)).set_ 1 (.int .i64 0)
        have c6 := hbf.cell 0
        have c7 := hbf.cell 1
        simp only [List.getElem?_toArray, List.getElem?_cons_zero, List.getElem?_cons_succ] at c6 c7
        clear c4 c5 f0 f1
        refine bodyPost_ret (by simp [results, Try.results47, go_sem, c6, c7]; try rfl) rfl ?_
        exact ⟨.inr ⟨fun j h1 => hall.out j (Nat.zero_le _) h1, rfl⟩, (he.setCell (by simp) _).setCell (by simp) _⟩
      · obtain ⟨q, rfl⟩ : ∃ q, m = q + 1 := ⟨m - 1, by omega⟩
        rw [show (((q + 1 : Nat) : Int) - 1) = (q : Int) by omega]
        have hq : q < n := by omega
        obtain ⟨a1, rfl, hc1⟩ := hl1.at_ hq
        obtain ⟨a2, rfl, hc2⟩ := hB.at_ hq
        have d1 := hc1 q hq
        have d2 := hc2 q hq
        clear hc1 hc2
        have hnx : Hid ((gI l q = o → gI (pairsF l) q < k) → ∀ j, q ≤ j → j ≤ k → j < l.length → gI l j = o → gI (pairsF l) j < k) := Lib.hid (fun hh j h1 h2 h3 h4 => by
          rcases Nat.lt_or_ge q j with h5 | h5
          · exact hall.out j (by omega) h2 h3 h4
          · obtain rfl : j = q := by omega
            exact hh h4)
        by_cases heq : gI l q = o
        · have b1 : (gI l q == o) = true := by simpa using heq
          have HQ := Lib.hid heq
          clear heq
          by_cases hge : (k : Int) ≤ gI (pairsF l) q
          · obtain ⟨b, hb1, hb2⟩ := HF.out q hq hge
            have HB := Lib.hid hb1
            rw [hb1] at d2 hge
            clear hb1
            have f0 := hb0.frozen 0
            have f1 := hb0.frozen 1
            have c4 := hb0.cell 0
            have c5 := hb0.cell 1
            simp only [List.getElem?_toArray, List.getElem?_cons_zero, List.getElem?_cons_succ] at c4 c5
            go_wp2_with fail
            have hbf : Blk ((wr.setCell ⟨w.heap.size, 0, none⟩ (.int .i64 ((q : Int) + 1))).setCell ⟨w.heap.size, 1, none⟩ (.int .i64 b)) w.heap.size 92 #[.int .i64 ((q : Int) + 1), .int .i64 b] := by
              simpa using (hb0.set_ 0 (.int .i64 ((q : Int) + 1))).set_ 1 (.int .i64 b)
            have c6 := hbf.cell 0
            have c7 := hbf.cell 1
            simp only [List.getElem?_toArray, List.getElem?_cons_zero, List.getElem?_cons_succ] at c6 c7
            clear c4 c5 f0 f1
            refine bodyPost_ret (by simp [results, Try.results47, go_sem, c6, c7]; try rfl) rfl ?_
            exact ⟨.inl ⟨q, b, ⟨by omega, by rw [hlen.out]; exact hq, HQ.out, HB.out, by omega, hb2, fun j h1 h2 h3 h4 => hall.out j h1 h2 h3 h4⟩, rfl⟩, (he.setCell (by simp) _).setCell (by simp) _⟩
          · have hlt : gI (pairsF l) q < k := by omega
            have HL := Lib.hid hlt
            clear hge
            go_wp2_with fail
            exact ⟨⟨q, by omega, by omega, by go_num, hnx.out (fun _ => HL.out), trivial⟩, by simp [intOf] <;> omega⟩
        · have b1 : (gI l q == o) = false := by simpa using heq
          have HQ := Lib.hid heq
          clear heq
          go_wp2_with fail
          exact ⟨⟨q, by omega, by omega, by go_num, hnx.out (fun h => absurd h HQ.out), trivial⟩, by simp [intOf] <;> omega⟩
end Go.Proofs.Ytmhgndjmcignjaa
