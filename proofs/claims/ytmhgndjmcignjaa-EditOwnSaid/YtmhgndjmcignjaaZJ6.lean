/-
  object.brackets with what is around: the walk.
-/
import Derived.Test.YtmhgndjmcignjaaZObjM

namespace Go.Proofs.Ytmhgndjmcignjaa
open Go.RowKit
set_option linter.unusedVariables false
set_option linter.unusedSimpArgs false

set_option maxRecDepth 20000 in
set_option maxHeartbeats 2000000 in
theorem bracketsA_ok {l : List Int} {A : Option Addr} {n c : Nat} {k : Nat} {o : Int} {w : World} (hl : Ints w A n c l) (wl : ∀ x ∈ l, (Lit.int .i64 x).wf = true) (hn : n ≤ 4096) (hk : k = 0 ∨ k < n) :
    Calls Try.prog 47 #[.slice A n c, .int .i64 k, .bool true, .int .i64 o] w fun e w' => ((∃ i b : Nat, found l k o i b ∧ e = .returned (.tuple #[.agg #[.int .i64 i, .int .i64 ((b : Int) + 1)], .int .i64 0])) ∨
      (nofound l k o ∧ e = .returned (.tuple #[.agg #[.int .i64 0, .int .i64 0], .int .i64 6]))) ∧ Ext w w' := by
  have hnc := hl.ncap
  have hcm := hl.nmax
  have hlen := Lib.hid hl.len
  unfold maxLen at hcm
  have HP := Lib.hid (pairs_ints (hl.ext (Ext.alloc w (.cells #[.int .i64 0, .int .i64 0] 92))) wl hn)
  clear wl
  go_enter Try.func47, Try.ntmps47
  go_wp2_with fail
  refine HP.out.mono ?_
  rintro e w1 ⟨B, rfl, hB, he1⟩
  have hb0 := (Blk.new w 92 #[.int .i64 0, .int .i64 0]).ext he1
  have he := (Ext.alloc w (.cells #[.int .i64 0, .int .i64 0] 92)).trans he1
  have hl1 := hl.ext he
  clear HP he1 hl
  have HF : Hid (∀ q : Nat, q < n → (k : Int) ≤ gI (pairsF l) q → ∃ b : Nat, gI (pairsF l) q = b ∧ b < l.length) := Lib.hid (fun q hq h => by
    rcases opairs_says (l := l) (i := q) (by rw [hlen.out]; exact hq) with h1 | ⟨b, h1, h2, _⟩
    · omega
    · exact ⟨b, h1, h2⟩)
  rcases Nat.eq_zero_or_pos n with hn0 | hn0
  · subst hn0
    obtain rfl : k = 0 := by omega
    go_wp2_with fail
    go_loopw [12] (fun i wr => ∃ m : Nat, m ≤ 0 ∧ i = .int .i64 ((m : Int) - 1) ∧ wr = w1) (fun i _ => (intOf i + 1).toNat)
    case atStart =>
      exact ⟨0, by omega, by rfl, rfl⟩
    case round =>
      obtain ⟨m, hm1, rfl, rfl⟩ := hrel
      obtain rfl : m = 0 := by omega
      have f0 := hb0.frozen 0
      have f1 := hb0.frozen 1
      have c4 := hb0.cell 0
      have c5 := hb0.cell 1
      simp only [List.getElem?_toArray, List.getElem?_cons_zero, List.getElem?_cons_succ] at c4 c5
      go_wp2_with fail
      have hbf : Blk ((wr.setCell ⟨w.heap.size, 0, none⟩ (.int .i64 0)).setCell ⟨w.heap.size, 1, none⟩ (.int .i64 0)) w.heap.size 92 #[.int .i64 0, .int .i64 0] := by
        simpa using (hb0.set_ 0 (.int .i64 0)).set_ 1 (.int .i64 0)
      have c6 := hbf.cell 0
      have c7 := hbf.cell 1
      simp only [List.getElem?_toArray, List.getElem?_cons_zero, List.getElem?_cons_succ] at c6 c7
      clear c4 c5 f0 f1
      refine bodyPost_ret (by simp [results, Try.results47, go_sem, c6, c7]; try rfl) rfl ?_
      exact ⟨.inr ⟨fun j h1 h2 => absurd h2 (by rw [hlen.out]; omega), rfl⟩, (he.setCell (by simp) _).setCell (by simp) _⟩
  · have hkn : (k : Int) ≤ n - 1 := by omega
    go_wp2_with fail
    go_loopw [12] (fun i wr => ∃ m : Nat, m ≤ k + 1 ∧ m ≤ n ∧ i = .int .i64 ((m : Int) - 1) ∧ Hid (∀ j, m ≤ j → j ≤ k → j < l.length → gI l j = o → gI (pairsF l) j < k) ∧ wr = w1) (fun i _ => (intOf i + 1).toNat)
    case atStart =>
      exact ⟨k + 1, by omega, by omega, by congr 1; omega, fun j h1 h2 h3 => absurd h2 (by omega), rfl⟩
    case round =>
      obtain ⟨m, hm1, hm2, rfl, hall, rfl⟩ := hrel
      rcases Nat.eq_zero_or_pos m with h0 | h0
      · subst h0
        have f0 := hb0.frozen 0
        have f1 := hb0.frozen 1
        have c4 := hb0.cell 0
        have c5 := hb0.cell 1
        simp only [List.getElem?_toArray, List.getElem?_cons_zero, List.getElem?_cons_succ] at c4 c5
        go_wp2_with fail
        have hbf : Blk ((wr.setCell ⟨w.heap.size, 0, none⟩ (.int .i64 0)).setCell ⟨w.heap.size, 1, none⟩ (.int .i64 0)) w.heap.size 92 #[.int .i64 0, .int .i64 0] := by
          simpa using (hb0.set_ 0 (.int .i64 0)).set_ 1 (.int .i64 0)
        have c6 := hbf.cell 0
        have c7 := hbf.cell 1
        simp only [List.getElem?_toArray, List.getElem?_cons_zero, List.getElem?_cons_succ] at c6 c7
        clear c4 c5 f0 f1
        refine bodyPost_ret (by simp [results, Try.results47, go_sem, c6, c7]; try rfl) rfl ?_
        exact ⟨.inr ⟨fun j h1 => hall.out j (Nat.zero_le _) h1, rfl⟩, (he.setCell (by simp) _).setCell (by simp) _⟩
      · obtain ⟨q, rfl⟩ : ∃ q, m = q + 1 := ⟨m - 1, by omega⟩
        rw [show (((q + 1 : Nat) : Int) - 1) = (q : Int) by omega]
        have hq : q < n := by omega
        obtain ⟨a1, rfl, hc1⟩ := hl1.at_ hq
        obtain ⟨a2, rfl, hc2⟩ := hB.at_ hq
        have d1 := hc1 q hq
        have d2 := hc2 q hq
        clear hc1 hc2
        have hnx : Hid ((gI l q = o → gI (pairsF l) q < k) → ∀ j, q ≤ j → j ≤ k → j < l.length → gI l j = o → gI (pairsF l) j < k) := Lib.hid (fun hh j h1 h2 h3 h4 => by
          rcases Nat.lt_or_ge q j with h5 | h5
          · exact hall.out j (by omega) h2 h3 h4
          · obtain rfl : j = q := by omega
            exact hh h4)
        by_cases heq : gI l q = o
        · have b1 : (gI l q == o) = true := by simpa using heq
          have HQ := Lib.hid heq
          clear heq
          by_cases hge : (k : Int) ≤ gI (pairsF l) q
          · obtain ⟨b, hb1, hb2⟩ := HF.out q hq hge
            have HB := Lib.hid hb1
            have hbn : b < n := by rw [← hlen.out]; exact hb2
            rw [hb1] at d2 hge
            clear hb1
            have f0 := hb0.frozen 0
            have f1 := hb0.frozen 1
            have c4 := hb0.cell 0
            have c5 := hb0.cell 1
            simp only [List.getElem?_toArray, List.getElem?_cons_zero, List.getElem?_cons_succ] at c4 c5
            go_wp2_with fail
            have hbf : Blk ((wr.setCell ⟨w.heap.size, 0, none⟩ (.int .i64 (q : Int))).setCell ⟨w.heap.size, 1, none⟩ (.int .i64 ((b : Int) + 1))) w.heap.size 92 #[.int .i64 q, .int .i64 ((b : Int) + 1)] := by
              simpa using (hb0.set_ 0 (.int .i64 (q : Int))).set_ 1 (.int .i64 ((b : Int) + 1))
            have c6 := hbf.cell 0
            have c7 := hbf.cell 1
            simp only [List.getElem?_toArray, List.getElem?_cons_zero, List.getElem?_cons_succ] at c6 c7
            clear c4 c5 f0 f1
            refine bodyPost_ret (by simp [results, Try.results47, go_sem, c6, c7]; try rfl) rfl ?_
            exact ⟨.inl ⟨q, b, ⟨by omega, by rw [hlen.out]; exact hq, HQ.out, HB.out, by omega, hb2, fun j h1 h2 h3 h4 => hall.out j h1 h2 h3 h4⟩, rfl⟩, (he.setCell (by simp) _).setCell (by simp) _⟩
          · have hlt : gI (pairsF l) q < k := by omega
            have HL := Lib.hid hlt
            clear hge
            go_wp2_with fail
            exact ⟨⟨q, by omega, by omega, by go_num, hnx.out (fun _ => HL.out), trivial⟩, by simp [intOf] <;> omega⟩
        · have b1 : (gI l q == o) = false := by simpa using heq
          have HQ := Lib.hid heq
          clear heq
          go_wp2_with fail
          exact ⟨⟨q, by omega, by omega, by go_num, hnx.out (fun h => absurd h HQ.out), trivial⟩, by simp [intOf] <;> omega⟩
end Go.Proofs.Ytmhgndjmcignjaa

namespace Go.Proofs.Ytmhgndjmcignjaa
open Go.RowKit
set_option linter.unusedVariables false
set_option linter.unusedSimpArgs false

/-- Where the quote lies that is open behind j characters; -1: none. -/
def qs (l : List Int) (k : Nat) (q : Int) : Nat → Int
  | 0 => -1
  | j + 1 => if gI l j ≠ q then qs l k q j else if qs l k q j < 0 then j else -1
theorem qs_bd (l : List Int) (k : Nat) (q : Int) : ∀ j : Nat, -1 ≤ qs l k q j ∧ qs l k q j < j
  | 0 => by unfold qs; omega
  | j + 1 => by
    have := qs_bd l k q j
    unfold qs
    (repeat' split) <;> omega
/-- The quote at j ends what is looked for. -/
def hitQ (l : List Int) (k : Nat) (q : Int) (j : Nat) : Prop := gI l j = q ∧ 0 ≤ qs l k q j ∧ k ≤ j
/-- What quotes finds: the first that ends it, and the one that opens. -/
def foundQ (l : List Int) (k : Nat) (q : Int) (f t : Nat) : Prop := t < l.length ∧ hitQ l k q t ∧ (∀ j, j < t → ¬ hitQ l k q j) ∧ qs l k q t = (f : Int) ∧ f < t
def nofQ (l : List Int) (k : Nat) (q : Int) : Prop := ∀ j, j < l.length → ¬ hitQ l k q j
theorem foundQ_one {l : List Int} {k : Nat} {q : Int} {f t f' t' : Nat} (h : foundQ l k q f t) (h' : foundQ l k q f' t') : f = f' ∧ t = t' := by
  have e : t = t' := by
    rcases Nat.lt_trichotomy t t' with h1 | h1 | h1
    · exact absurd h.2.1 (h'.2.2.1 t h1)
    · exact h1
    · exact absurd h'.2.1 (h.2.2.1 t' h1)
  subst e
  have h1 := h.2.2.2.1
  have h2 := h'.2.2.2.1
  exact ⟨by omega, rfl⟩
theorem foundQ_no {l : List Int} {k : Nat} {q : Int} {f t : Nat} (h : foundQ l k q f t) : ¬ nofQ l k q := fun h' => h' t h.1 h.2.1

set_option maxRecDepth 20000 in
set_option maxHeartbeats 2000000 in
theorem quotes_ok {l : List Int} {A : Option Addr} {n c : Nat} {k : Nat} {ar : Bool} {q : Int} {w : World} (hl : Ints w A n c l) (hn : n ≤ 4096) :
    Calls Try.prog 48 #[.slice A n c, .int .i64 k, .bool ar, .int .i64 q] w fun e w' => ((∃ f t : Nat, foundQ l k q f t ∧ e = .returned (.tuple #[.agg #[.int .i64 (if ar = true then (f : Int) else (f : Int) + 1), .int .i64 (if ar = true then (t : Int) + 1 else (t : Int))], .int .i64 0])) ∨
      (nofQ l k q ∧ e = .returned (.tuple #[.agg #[.int .i64 0, .int .i64 0], .int .i64 6]))) ∧ Ext w w' := by
  have hnc := hl.ncap
  have hcm := hl.nmax
  have hlen := Lib.hid hl.len
  unfold maxLen at hcm
  have he := Ext.alloc w (.cells #[.int .i64 0, .int .i64 0] 92)
  have hb0 := Blk.new w 92 #[.int .i64 0, .int .i64 0]
  have hl1 := hl.ext he
  clear hl
  go_enter Try.func48, Try.ntmps48
  go_wp2_with fail
  revert he hb0 hl1
  generalize w.alloc (.cells #[.int .i64 0, .int .i64 0] 92) = w1
  intro he hb0 hl1
  have f0 := hb0.frozen 0
  have f1 := hb0.frozen 1
  have c4 := hb0.cell 0
  have c5 := hb0.cell 1
  simp only [List.getElem?_toArray, List.getElem?_cons_zero, List.getElem?_cons_succ] at c4 c5
  have HBF : Hid (∀ x y : Int, Blk ((w1.setCell ⟨w.heap.size, 0, none⟩ (.int .i64 x)).setCell ⟨w.heap.size, 1, none⟩ (.int .i64 y)) w.heap.size 92 #[.int .i64 x, .int .i64 y]) := Lib.hid (fun x y => by
    simpa using (hb0.set_ 0 (.int .i64 x)).set_ 1 (.int .i64 y))
  have HEF : Hid (∀ x y : Int, Ext w ((w1.setCell ⟨w.heap.size, 0, none⟩ (.int .i64 x)).setCell ⟨w.heap.size, 1, none⟩ (.int .i64 y))) := Lib.hid (fun x y => (he.setCell (by simp) _).setCell (by simp) _)
  clear hb0
  go_loopw [10, 15] (fun fr v wr => ∃ j : Nat, j ≤ n ∧ v = .int .i64 j ∧ fr = .int .i64 (qs l k q j) ∧ Hid (∀ x, x < j → ¬ hitQ l k q x) ∧ wr = w1) (fun _ v _ => n - (intOf v).toNat)
  case atStart => exact ⟨0, by omega, rfl, rfl, fun x h => absurd h (by omega), rfl⟩
  case round =>
    obtain ⟨j, hj, rfl, rfl, hall, rfl⟩ := hrel
    obtain ⟨q1, q2⟩ := qs_bd l k q j
    have HS : Hid (qs l k q (j + 1) = if gI l j ≠ q then qs l k q j else if qs l k q j < 0 then j else -1) := Lib.hid rfl
    have HN : Hid (¬ hitQ l k q j → ∀ x, x < j + 1 → ¬ hitQ l k q x) := Lib.hid (fun h x hx => by
      rcases Nat.lt_or_ge x j with h3 | h3
      · exact hall.out x h3
      · obtain rfl : x = j := by omega
        exact h)
    by_cases hlt : j < n
    · obtain ⟨a1, rfl, hc⟩ := hl1.at_ hlt
      have d1 := hc j hlt
      clear hc
      by_cases hq : gI l j = q
      · have b1 : (gI l j != q) = false := by simpa using hq
        have HQ := Lib.hid hq
        clear hq
        by_cases hneg : qs l k q j < 0
        · have hh : Hid (¬ hitQ l k q j) := Lib.hid (fun h => by have := h.2.1; omega)
          have HV : Hid (qs l k q (j + 1) = j) := Lib.hid (by rw [HS.out, if_neg (by simp [HQ.out]), if_pos hneg])
          go_wp2_with fail
          exact ⟨⟨j + 1, by omega, by go_num, by rw [HV.out], HN.out hh.out, trivial⟩, by simp [intOf] <;> omega⟩
        · by_cases hk : j < k
          · have hh : Hid (¬ hitQ l k q j) := Lib.hid (fun h => by have := h.2.2; omega)
            have HV : Hid (qs l k q (j + 1) = -1) := Lib.hid (by rw [HS.out, if_neg (by simp [HQ.out]), if_neg hneg])
            go_wp2_with fail
            exact ⟨⟨j + 1, by omega, by go_num, by rw [HV.out], HN.out hh.out, trivial⟩, by simp [intOf] <;> omega⟩
          · obtain ⟨f, hf⟩ := Int.eq_ofNat_of_zero_le (show 0 ≤ qs l k q j by omega)
            have HF : Hid (foundQ l k q f j) := Lib.hid ⟨by rw [hlen.out]; exact hlt, ⟨HQ.out, by omega, by omega⟩, hall.out, hf, by omega⟩
            rw [hf] at q1 q2 hneg ⊢
            clear hf HS
            rcases ar with _ | _
            · go_wp2_with fail
              have hbf := HBF.out ((f : Int) + 1) j
              have c6 := hbf.cell 0
              have c7 := hbf.cell 1
              simp only [List.getElem?_toArray, List.getElem?_cons_zero, List.getElem?_cons_succ] at c6 c7
              clear c4 c5 f0 f1 hbf
              refine bodyPost_ret (by simp [results, Try.results48, go_sem, c6, c7]; try rfl) rfl ?_
              exact ⟨.inl ⟨f, j, HF.out, rfl⟩, HEF.out _ _⟩
            · go_wp2_with fail
              have hbf := HBF.out (f : Int) ((j : Int) + 1)
              have c6 := hbf.cell 0
              have c7 := hbf.cell 1
              simp only [List.getElem?_toArray, List.getElem?_cons_zero, List.getElem?_cons_succ] at c6 c7
              clear c4 c5 f0 f1 hbf
              refine bodyPost_ret (by simp [results, Try.results48, go_sem, c6, c7]; try rfl) rfl ?_
              exact ⟨.inl ⟨f, j, HF.out, rfl⟩, HEF.out _ _⟩
      · have b1 : (gI l j != q) = true := by simpa using hq
        have hh : Hid (¬ hitQ l k q j) := Lib.hid (fun h => hq h.1)
        have HV : Hid (qs l k q (j + 1) = qs l k q j) := Lib.hid (by rw [HS.out, if_pos hq])
        clear hq
        go_wp2_with fail
        exact ⟨⟨j + 1, by omega, by go_num, by rw [HV.out], HN.out hh.out, trivial⟩, by simp [intOf] <;> omega⟩
    · have HF : Hid (nofQ l k q) := Lib.hid (fun x hx => hall.out x (by rw [hlen.out] at hx; omega))
      go_wp2_with fail
      all_goals
        have hbf := HBF.out 0 0
        have c6 := hbf.cell 0
        have c7 := hbf.cell 1
        simp only [List.getElem?_toArray, List.getElem?_cons_zero, List.getElem?_cons_succ] at c6 c7
        clear c4 c5 f0 f1 hbf
        refine bodyPost_ret (by simp [results, Try.results48, go_sem, c6, c7]; try rfl) rfl ?_
        exact ⟨.inr ⟨HF.out, rfl⟩, HEF.out _ _⟩
end Go.Proofs.Ytmhgndjmcignjaa
