/-
  motion.Go at '%': the walks.
-/
import Derived.Test.YtmhgndjmcignjaaZObjM
import Derived.Test.YtmhgndjmcignjaaZJ5

namespace Go.Proofs.Ytmhgndjmcignjaa
open Go.RowKit
set_option linter.unusedVariables false
set_option linter.unusedSimpArgs false

set_option maxRecDepth 20000 in
set_option maxHeartbeats 2000000 in
theorem partner_ok {l : List Int} {A : Option Addr} {n c : Nat} {k : Nat} {g : Int} {op : Bool} {w : World} (hl : Ints w A n c l) (wl : ∀ x ∈ l, (Lit.int .i64 x).wf = true) (hn : n ≤ 4096) (hk : k ≤ n) :
    Calls Try.prog 66 #[.agg #[.slice A n c, .int .i64 k, .int .i64 g, .bool op]] w fun e w' => ((∃ i m : Nat, foundP l k i m ∧ e = .returned (.tuple #[.agg #[.int .i64 m, .bool true], .int .i64 0])) ∨
      (noP l k ∧ e = .returned (.tuple #[.agg #[.int .i64 0, .bool false], .int .i64 5]))) ∧ Ext w w' := by
  have hnc := hl.ncap
  have hcm := hl.nmax
  have hlen := Lib.hid hl.len
  unfold maxLen at hcm
  have hx0 : Ext w ((w.alloc (.cells #[.slice A n c, .int .i64 k, .int .i64 g, .bool op] 99)).alloc (.cells #[.int .i64 0, .bool false] 101)) := (Ext.alloc _ _).to_alloc _
  have hb1 := (Blk.new w 99 #[.slice A n c, .int .i64 k, .int .i64 g, .bool op]).ext (Ext.alloc _ (.cells #[.int .i64 0, .bool false] 101))
  have hb2 : Blk ((w.alloc (.cells #[.slice A n c, .int .i64 k, .int .i64 g, .bool op] 99)).alloc (.cells #[.int .i64 0, .bool false] 101)) (w.heap.size + 1) 101 #[.int .i64 0, .bool false] := by
    simpa using Blk.new (w.alloc (.cells #[.slice A n c, .int .i64 k, .int .i64 g, .bool op] 99)) 101 #[.int .i64 0, .bool false]
  have HP := Lib.hid (pairs_ints (hl.ext hx0) wl hn)
  clear wl
  go_enter Try.func66, Try.ntmps66
  go_wp2_with fail
  refine HP.out.mono ?_
  rintro e w1 ⟨B, rfl, hB, he1⟩
  have hq1 := hb1.ext he1
  have hq2 := hb2.ext he1
  have he := hx0.trans he1
  have hl1 := hl.ext he
  have c0 := hq1.cell 0
  have c1 := hq1.cell 1
  simp only [List.getElem?_toArray, List.getElem?_cons_zero, List.getElem?_cons_succ] at c0 c1
  clear HP he1 hl hx0 hb1 hb2 hq1
  have HF : Hid (∀ q : Nat, q < n → ¬ gI (pairsF l) q < 0 → ∃ b : Nat, gI (pairsF l) q = b ∧ b < l.length) := Lib.hid (fun q hq h => by
    rcases opairs_says (l := l) (i := q) (by rw [hlen.out]; exact hq) with h1 | ⟨b, h1, h2, _⟩
    · omega
    · exact ⟨b, h1, h2⟩)
  have f0 := hq2.frozen 0
  have f1 := hq2.frozen 1
  have c4 := hq2.cell 0
  have c5 := hq2.cell 1
  simp only [List.getElem?_toArray, List.getElem?_cons_zero, List.getElem?_cons_succ] at c4 c5
  have hbF : ∀ (x : Int) (y : Bool), Blk ((w1.setCell ⟨w.heap.size + 1, 0, none⟩ (.int .i64 x)).setCell ⟨w.heap.size + 1, 1, none⟩ (.bool y)) (w.heap.size + 1) 101 #[.int .i64 x, .bool y] := fun x y => by
    simpa using (hq2.set_ 0 (.int .i64 x)).set_ 1 (.bool y)
  have HBF := Lib.hid hbF
  have hef : ∀ (x : Int) (y : Bool), Ext w ((w1.setCell ⟨w.heap.size + 1, 0, none⟩ (.int .i64 x)).setCell ⟨w.heap.size + 1, 1, none⟩ (.bool y)) := fun x y => (he.setCell (by simp) _).setCell (by simp) _
  have HEF := Lib.hid hef
  clear hbF hef hq2
  go_wp2_with fail
  go_loopw [6] (fun v wr => ∃ j : Nat, k ≤ j ∧ j ≤ n ∧ v = .int .i64 j ∧ Hid (∀ x, k ≤ x → x < j → othF (gI l x) = 0) ∧ wr = w1) (fun v _ => n - (intOf v).toNat)
  case atStart => exact ⟨k, Nat.le_refl _, hk, rfl, fun x h1 h2 => absurd h2 (by omega), rfl⟩
  case round =>
    obtain ⟨j, hj1, hj2, rfl, hall, rfl⟩ := hrel
    by_cases hlt : j < n
    · obtain ⟨a1, rfl, hc1⟩ := hl1.at_ hlt
      obtain ⟨a2, rfl, hc2⟩ := hB.at_ hlt
      have d1 := hc1 j hlt
      have d2 := hc2 j hlt
      clear hc1 hc2
      go_wp2_with fail
      refine (kind_ok _ _).mono ?_
      rintro e w2 ⟨rfl, rfl⟩
      by_cases hz : othF (gI l j) = 0
      · have b1 : (othF (gI l j) != 0) = false := by simpa using hz
        have HZ := Lib.hid hz
        clear hz
        go_wp2_with fail
        exact ⟨⟨j + 1, by omega, by omega, by go_num, fun x h1 h2 => by
          rcases Nat.lt_or_ge x j with h3 | h3
          · exact hall.out x h1 h3
          · obtain rfl : x = j := by omega
            exact HZ.out, trivial⟩, by simp [intOf] <;> omega⟩
      · have b1 : (othF (gI l j) != 0) = true := by simpa using hz
        have HZ := Lib.hid hz
        clear hz
        by_cases hp : gI (pairsF l) j < 0
        · have HN : Hid (noP l k) := Lib.hid (fun i h1 h2 h3 h4 => by
            rcases Nat.lt_trichotomy i j with h5 | h5 | h5
            · exact absurd (hall.out i h1 h5) h3
            · subst h5; exact hp
            · exact absurd (h4 j hj1 h5) HZ.out)
          go_wp2_with fail
          have hbf := HBF.out 0 false
          have c6 := hbf.cell 0
          have c7 := hbf.cell 1
          simp only [List.getElem?_toArray, List.getElem?_cons_zero, List.getElem?_cons_succ] at c6 c7
          clear c4 c5 f0 f1 c0 c1 hbf
          refine bodyPost_ret (by simp [results, Try.results66, go_sem, c6, c7]; try rfl) rfl ?_
          exact ⟨.inr ⟨HN.out, rfl⟩, HEF.out _ _⟩
        · obtain ⟨m, hm1, hm2⟩ := HF.out j hlt (by omega)
          have HM := Lib.hid hm1
          rw [hm1] at d2 hp
          clear hm1 hp
          go_wp2_with fail
          have hbf := HBF.out m true
          have c6 := hbf.cell 0
          have c7 := hbf.cell 1
          simp only [List.getElem?_toArray, List.getElem?_cons_zero, List.getElem?_cons_succ] at c6 c7
          clear c4 c5 f0 f1 c0 c1 hbf
          refine bodyPost_ret (by simp [results, Try.results66, go_sem, c6, c7]; try rfl) rfl ?_
          exact ⟨.inl ⟨j, m, ⟨hj1, by rw [hlen.out]; exact hlt, HZ.out, hall.out, HM.out, hm2⟩, rfl⟩, HEF.out _ _⟩
    · have HN : Hid (noP l k) := Lib.hid (fun i h1 h2 h3 h4 => absurd (hall.out i h1 (by rw [hlen.out] at h2; omega)) h3)
      go_wp2_with fail
      have hbf := HBF.out 0 false
      have c6 := hbf.cell 0
      have c7 := hbf.cell 1
      simp only [List.getElem?_toArray, List.getElem?_cons_zero, List.getElem?_cons_succ] at c6 c7
      clear c4 c5 f0 f1 c0 c1 hbf
      refine bodyPost_ret (by simp [results, Try.results66, go_sem, c6, c7]; try rfl) rfl ?_
      exact ⟨.inr ⟨HN.out, rfl⟩, HEF.out _ _⟩

set_option maxRecDepth 20000 in
set_option maxHeartbeats 2000000 in
theorem plain_ok {l : List Int} {A : Option Addr} {n c : Nat} {k : Nat} {g : Int} {op : Bool} {w : World} (hl : Ints w A n c l) (wl : ∀ x ∈ l, (Lit.int .i64 x).wf = true) (hn : n ≤ 4096) (hk : k ≤ n) :
    Calls Try.prog 53 #[.agg #[.slice A n c, .int .i64 k, .int .i64 g, .bool op], .int .i64 37] w fun e w' => ((∃ i m : Nat, foundP l k i m ∧ e = .returned (.tuple #[.agg #[.int .i64 m, .bool true], .int .i64 0])) ∨
      (noP l k ∧ e = .returned (.tuple #[.agg #[.int .i64 0, .bool false], .int .i64 5]))) ∧ Ext w w' := by
  have hnc := hl.ncap
  have hcm := hl.nmax
  have hlen := Lib.hid hl.len
  unfold maxLen at hcm
  have hx0 : Ext w ((w.alloc (.cells #[.slice A n c, .int .i64 k, .int .i64 g, .bool op] 99)).alloc (.cells #[.int .i64 0, .bool false] 101)) := (Ext.alloc _ _).to_alloc _
  have hb2 : Blk ((w.alloc (.cells #[.slice A n c, .int .i64 k, .int .i64 g, .bool op] 99)).alloc (.cells #[.int .i64 0, .bool false] 101)) (w.heap.size + 1) 101 #[.int .i64 0, .bool false] := by
    simpa using Blk.new (w.alloc (.cells #[.slice A n c, .int .i64 k, .int .i64 g, .bool op] 99)) 101 #[.int .i64 0, .bool false]
  have HP := Lib.hid (partner_ok (k := k) (g := g) (op := op) (hl.ext hx0) wl hn hk)
  clear wl
  have hend : ∀ (w1 : World) (he1 : Ext ((w.alloc (.cells #[.slice A n c, .int .i64 k, .int .i64 g, .bool op] 99)).alloc (.cells #[.int .i64 0, .bool false] 101)) w1) (x : Int) (y : Bool), Blk ((w1.setCell ⟨w.heap.size + 1, 0, none⟩ (.int .i64 x)).setCell ⟨w.heap.size + 1, 1, none⟩ (.bool y)) (w.heap.size + 1) 101 #[.int .i64 x, .bool y] ∧ Ext w ((w1.setCell ⟨w.heap.size + 1, 0, none⟩ (.int .i64 x)).setCell ⟨w.heap.size + 1, 1, none⟩ (.bool y)) := fun w1 he1 x y =>
    ⟨by simpa using ((hb2.ext he1).set_ 0 (.int .i64 x)).set_ 1 (.bool y), ((hx0.trans he1).setCell (by simp) _).setCell (by simp) _⟩
  have HE := Lib.hid hend
  clear hend
  rcases Nat.eq_zero_or_pos n with h0 | h0
  · subst h0
    have HN : Hid (noP l k) := Lib.hid (fun i h1 h2 => absurd h2 (by rw [hlen.out]; omega))
    clear hb2
    go_enter Try.func53, Try.ntmps53
    go_wp2_with fail
    obtain ⟨hbf, hef⟩ := HE.out _ (Ext.refl _) 0 false
    have c6 := hbf.cell 0
    have c7 := hbf.cell 1
    simp only [List.getElem?_toArray, List.getElem?_cons_zero, List.getElem?_cons_succ] at c6 c7
    clear hbf
    refine bodyPost_ret (by simp [results, Try.results53, go_sem, c6, c7]; try rfl) rfl ?_
    first
      | exact ⟨.inr ⟨HN.out, rfl⟩, hx0⟩
      | exact ⟨.inr ⟨HN.out, rfl⟩, hef⟩
  · have z1 : ((n : Int) == 0) = false := by simp; omega
    go_enter Try.func53, Try.ntmps53
    go_wp2_with fail
    refine HP.out.mono ?_
    rintro e w1 ⟨⟨i, m, hf, rfl⟩ | ⟨hf, rfl⟩, he1⟩
    · have HF := Lib.hid hf
      have hq := hb2.ext he1
      have f0 := hq.frozen 0
      have f1 := hq.frozen 1
      have c4 := hq.cell 0
      have c5 := hq.cell 1
      simp only [List.getElem?_toArray, List.getElem?_cons_zero, List.getElem?_cons_succ] at c4 c5
      clear hf hq HP hb2
      go_wp2_with fail
      obtain ⟨hbf, hef⟩ := HE.out _ he1 m true
      have c6 := hbf.cell 0
      have c7 := hbf.cell 1
      simp only [List.getElem?_toArray, List.getElem?_cons_zero, List.getElem?_cons_succ] at c6 c7
      clear hbf c4 c5 f0 f1
      refine bodyPost_ret (by simp [results, Try.results53, go_sem, c6, c7]; try rfl) rfl ?_
      exact ⟨.inl ⟨i, m, HF.out, rfl⟩, hef⟩
    · have HF := Lib.hid hf
      have hq := hb2.ext he1
      have f0 := hq.frozen 0
      have f1 := hq.frozen 1
      have c4 := hq.cell 0
      have c5 := hq.cell 1
      simp only [List.getElem?_toArray, List.getElem?_cons_zero, List.getElem?_cons_succ] at c4 c5
      clear hf hq HP hb2
      go_wp2_with fail
      obtain ⟨hbf, hef⟩ := HE.out _ he1 0 false
      have c6 := hbf.cell 0
      have c7 := hbf.cell 1
      simp only [List.getElem?_toArray, List.getElem?_cons_zero, List.getElem?_cons_succ] at c6 c7
      clear hbf c4 c5 f0 f1
      refine bodyPost_ret (by simp [results, Try.results53, go_sem, c6, c7]; try rfl) rfl ?_
      exact ⟨.inr ⟨HF.out, rfl⟩, hef⟩

set_option maxRecDepth 20000 in
set_option maxHeartbeats 400000 in
theorem known37 (w : World) : Calls Try.prog 51 #[.int .i64 37] w fun e w' => e = .returned (.tuple #[.bool true, .bool false]) ∧ w' = w := by
  go_enter Try.func51, Try.ntmps51
  go_wp2_with fail
  go_ret2
  exact ⟨rfl, rfl⟩
end Go.Proofs.Ytmhgndjmcignjaa
