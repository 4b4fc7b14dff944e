/-
  The walks of package motion: right, first, times, words, ends, found.
-/
import Derived.Test.YtmhgndjmcignjaaZMotF

namespace Go.Proofs.Ytmhgndjmcignjaa
open Go.RowKit
set_option linter.unusedVariables false
set_option linter.unusedSimpArgs false

/-- A place's two cells, written. -/
theorem slot_facts {w W : World} {q T : Nat} {x0 y0 : Value} (hb : Blk W q T #[x0, y0]) (he : Ext w W) (hq : w.heap.size ≤ q) :
    (∀ x y : Value, ((W.setCell ⟨q, 0, none⟩ x).setCell ⟨q, 1, none⟩ y).cell? ⟨q, 0, none⟩ = some x) ∧ (∀ x y : Value, ((W.setCell ⟨q, 0, none⟩ x).setCell ⟨q, 1, none⟩ y).cell? ⟨q, 1, none⟩ = some y) ∧
    (∀ x y : Value, Ext w ((W.setCell ⟨q, 0, none⟩ x).setCell ⟨q, 1, none⟩ y)) ∧ (∀ x : Value, Ext w (W.setCell ⟨q, 0, none⟩ x)) ∧ (∀ y : Value, Ext w (W.setCell ⟨q, 1, none⟩ y)) := by
  refine ⟨fun x y => ?_, fun x y => ?_, fun x y => (he.setCell hq _).setCell hq _, fun x => he.setCell hq _, fun x => he.setCell hq _⟩
  · have := ((hb.set_ 0 x).set_ 1 y).cell 0
    simpa using this
  · have := ((hb.set_ 0 x).set_ 1 y).cell 1
    simpa using this

theorem place_new (w : World) (v0 v1 v2 v3 : Value) : Blk ((w.alloc (.cells #[v0, v1, v2, v3] 99)).alloc (.cells #[.int .i64 0, .bool false] 101)) (w.heap.size + 1) 101 #[.int .i64 0, .bool false] := by
  simpa using Blk.new (w.alloc (.cells #[v0, v1, v2, v3] 99)) 101 #[.int .i64 0, .bool false]
theorem goer_new (w : World) (v0 v1 v2 v3 : Value) : Blk ((w.alloc (.cells #[v0, v1, v2, v3] 99)).alloc (.cells #[.int .i64 0, .bool false] 101)) w.heap.size 99 #[v0, v1, v2, v3] :=
  (Blk.new w _ _).ext (Ext.alloc _ _)

theorem ret_place {x : Int} {a : Nat} {i : Bool} (h : x = a) : Ending.returned (.tuple #[.agg #[.int .i64 x, .bool i], .int .i64 0]) = outP (some (a, i)) := by rw [h]; rfl
theorem outP_some (a : Nat) (i : Bool) : outP (some (a, i)) = .returned (.tuple #[.agg #[.int .i64 a, .bool i], .int .i64 0]) := rfl
theorem outP_none : outP none = .returned (.tuple #[.agg #[.int .i64 0, .bool false], .int .i64 5]) := rfl

set_option maxRecDepth 20000 in
set_option maxHeartbeats 2000000 in
theorem right_ok {A : Option Addr} {n c : Nat} {k g : Nat} {op : Bool} {w : World} (hnc : n ≤ c) (hcm : c ≤ maxLen) (hn : n ≤ 4096) (hk : k ≤ n) (hg1 : 1 ≤ g) (hg2 : g ≤ 4096) :
    Calls Try.prog 61 #[.agg #[.slice A n c, .int .i64 k, .int .i64 g, .bool op]] w fun e w' => e = outP (if (if op = true then n else n - 1) ≤ k then none else some (min (if op = true then n else n - 1) (k + g), false)) ∧ Ext w w' := by
  unfold maxLen at hcm
  have hx0 : Ext w ((w.alloc (.cells #[.slice A n c, .int .i64 k, .int .i64 g, .bool op] 99)).alloc (.cells #[.int .i64 0, .bool false] 101)) := (Ext.alloc _ _).to_alloc _
  have hb2 := place_new w (.slice A n c) (.int .i64 k) (.int .i64 g) (.bool op)
  have HB := Lib.hid hb2
  have c0 := hb2.cell 0
  have c1 := hb2.cell 1
  have f0 := hb2.frozen 0
  have f1 := hb2.frozen 1
  simp only [List.getElem?_toArray, List.getElem?_cons_zero, List.getElem?_cons_succ] at c0 c1
  clear hb2
  cases op
  · by_cases hle : n - 1 ≤ k
    · rw [show (if (if false = true then n else n - 1) ≤ k then (none : Option (Nat × Bool)) else some (min (if false = true then n else n - 1) (k + g), false)) = none by simp [hle], outP_none]
      go_enter Try.func61, Try.ntmps61
      go_wp2_with fail
      all_goals
        obtain ⟨c6, c7, hx, hx1, hx2⟩ := slot_facts HB.out hx0 (by simp)
        refine bodyPost_ret (by simp [results, Try.results61, go_sem, c6, c7]; try rfl) rfl ?_
        refine ⟨rfl, by first | exact hx _ _ | exact hx0 | exact hx1 _ | exact hx2 _ | exact (Ext.alloc _ _).to_alloc _⟩
    · have HL := Lib.hid hle
      rw [show (if (if false = true then n else n - 1) ≤ k then (none : Option (Nat × Bool)) else some (min (if false = true then n else n - 1) (k + g), false)) = some (min (n - 1) (k + g), false) by simp; omega]
      go_enter Try.func61, Try.ntmps61
      go_wp2_with fail
      all_goals
        obtain ⟨c6, c7, hx, hx1, hx2⟩ := slot_facts HB.out hx0 (by simp)
        refine bodyPost_ret (by simp [results, Try.results61, go_sem, c6, c7]; try rfl) rfl ?_
        refine ⟨ret_place (by have := HL.out; omega), by first | exact hx _ _ | exact hx0 | exact hx1 _ | exact hx2 _ | exact (Ext.alloc _ _).to_alloc _⟩
  · by_cases hle : n ≤ k
    · rw [show (if (if true = true then n else n - 1) ≤ k then (none : Option (Nat × Bool)) else some (min (if true = true then n else n - 1) (k + g), false)) = none by simp [hle], outP_none]
      go_enter Try.func61, Try.ntmps61
      go_wp2_with fail
      all_goals
        obtain ⟨c6, c7, hx, hx1, hx2⟩ := slot_facts HB.out hx0 (by simp)
        refine bodyPost_ret (by simp [results, Try.results61, go_sem, c6, c7]; try rfl) rfl ?_
        refine ⟨rfl, by first | exact hx _ _ | exact hx0 | exact hx1 _ | exact hx2 _ | exact (Ext.alloc _ _).to_alloc _⟩
    · have HL := Lib.hid hle
      rw [show (if (if true = true then n else n - 1) ≤ k then (none : Option (Nat × Bool)) else some (min (if true = true then n else n - 1) (k + g), false)) = some (min (n) (k + g), false) by simp; omega]
      go_enter Try.func61, Try.ntmps61
      go_wp2_with fail
      all_goals
        obtain ⟨c6, c7, hx, hx1, hx2⟩ := slot_facts HB.out hx0 (by simp)
        refine bodyPost_ret (by simp [results, Try.results61, go_sem, c6, c7]; try rfl) rfl ?_
        refine ⟨ret_place (by have := HL.out; omega), by first | exact hx _ _ | exact hx0 | exact hx1 _ | exact hx2 _ | exact (Ext.alloc _ _).to_alloc _⟩

set_option maxRecDepth 20000 in
set_option maxHeartbeats 2000000 in
theorem times_ok {l : List Int} {A : Option Addr} {n c : Nat} {k g : Nat} {op big : Bool} {f : FuncId} {s : Nat → Nat} {w : World} (hl : Ints w A n c l) (hn : n ≤ 4096) (hk : k ≤ n) (hg2 : g ≤ 4096)
    (hent : Hid (∀ (args : Array Value) (w1 : World), Sem.run Try.prog (callFunc f args) w1 = .ok (.enter f args) w1)) (hs : Hid (∀ j, j ≤ n → s j ≤ n)) (H : Hid (∀ (w1 : World) (j : Nat), j ≤ n → Ints w1 A n c l → Calls Try.prog f #[.slice A n c, .int .i64 j, .bool big] w1 fun e w' => e = .returned (.tuple #[.int .i64 (s j), .int .i64 0]) ∧ Ext w1 w')) :
    Calls Try.prog 63 #[.agg #[.slice A n c, .int .i64 k, .int .i64 g, .bool op], .func (.func f) #[] #[], .bool big] w fun e w' => e = .returned (.int .i64 (itF s g k)) ∧ Ext w w' := by
  have hnc := hl.ncap
  have hcm := hl.nmax
  unfold maxLen at hcm
  have hx0 := Ext.alloc w (.cells #[.slice A n c, .int .i64 k, .int .i64 g, .bool op] 99)
  have hb0 := Blk.new w 99 #[.slice A n c, .int .i64 k, .int .i64 g, .bool op]
  go_enter Try.func63, Try.ntmps63
  go_wp2_with fail
  go_loopw [7, 12] (fun v i wr => ∃ j m : Nat, j ≤ g ∧ m ≤ n ∧ i = .int .i64 j ∧ v = .int .i64 m ∧ Hid (m = itF s j k) ∧ Ext (w.alloc (.cells #[.slice A n c, .int .i64 k, .int .i64 g, .bool op] 99)) wr) (fun _ i _ => g - (intOf i).toNat)
  case atStart => exact ⟨0, k, by omega, hk, rfl, rfl, rfl, Ext.refl _⟩
  case round =>
    obtain ⟨j, m, h1, h2, rfl, rfl, HM, he⟩ := hrel
    have c0 := (hb0.ext he).cell 0
    simp only [List.getElem?_toArray, List.getElem?_cons_zero, List.getElem?_cons_succ] at c0
    by_cases hlt : j < g
    · have hl1 := hl.ext (hx0.trans he)
      go_wp2_with fail
      rw [hent.out]
      refine (H.out _ m h2 hl1).mono ?_
      rintro e w1 ⟨rfl, he1⟩
      have HS : Hid (s m ≤ n ∧ s m = itF s (j + 1) k) := Lib.hid ⟨hs.out m h2, by rw [HM.out]; rfl⟩
      clear hb0 c0
      generalize s m = m' at *
      have h3 := HS.out.1
      go_wp2_with fail
      exact ⟨⟨j + 1, m', by omega, h3, by go_num, rfl, Lib.hid HS.out.2, he.trans he1⟩, by simp [intOf] <;> omega⟩
    · go_wp2_with fail
      go_ret
      refine ⟨ret_int ?_, hx0.trans he⟩
      have : j = g := by omega
      rw [HM.out, this]

set_option maxRecDepth 20000 in
set_option maxHeartbeats 2000000 in
theorem first_ok {l : List Int} {A : Option Addr} {n c : Nat} {k g : Nat} {op : Bool} {w : World} (hl : Ints w A n c l) (hn : n ≤ 4096) :
    Calls Try.prog 62 #[.agg #[.slice A n c, .int .i64 k, .int .i64 g, .bool op]] w fun e w' => e = .returned (.int .i64 (firstF l)) ∧ Ext w w' := by
  have hnc := hl.ncap
  have hcm := hl.nmax
  have hlen := Lib.hid hl.len
  unfold maxLen at hcm
  have hx0 := Ext.alloc w (.cells #[.slice A n c, .int .i64 k, .int .i64 g, .bool op] 99)
  have hb0 := Blk.new w 99 #[.slice A n c, .int .i64 k, .int .i64 g, .bool op]
  have hl1 := hl.ext hx0
  have c0 := hb0.cell 0
  simp only [List.getElem?_toArray, List.getElem?_cons_zero, List.getElem?_cons_succ] at c0
  go_enter Try.func62, Try.ntmps62
  go_wp2_with fail
  go_loopw [8] (fun i wr => ∃ j : Nat, j ≤ n ∧ i = .int .i64 j ∧ Hid (∀ x : Nat, 0 ≤ x → x < j → kindAt l true x = 0) ∧ wr = w.alloc (.cells #[.slice A n c, .int .i64 k, .int .i64 g, .bool op] 99)) (fun i _ => n - (intOf i).toNat)
  case atStart => exact ⟨0, by omega, rfl, fun x h1 h2 => absurd h2 (by omega), rfl⟩
  case round =>
    obtain ⟨j, h1, rfl, HA, rfl⟩ := hrel
    by_cases hlt : j < n
    · obtain ⟨a1, rfl, hc1⟩ := hl1.at_ hlt
      have d1 := hc1 j hlt
      have HK : Hid (kindAt l true j = kindF (gI l j) true) := Lib.hid (kindAt_in (by rw [hlen.out]; omega))
      clear hc1
      go_wp2_with fail
      refine (wkind_ok _ _ _).mono ?_
      rintro e w1 ⟨rfl, rfl⟩
      by_cases hz : kindF (gI l j) true = 0
      · have b1 : (kindF (gI l j) true != 0) = false := by simpa using hz
        have HZ := Lib.hid hz
        clear hz
        go_wp2_with fail
        exact ⟨⟨j + 1, by omega, by go_num, fun x h1 h2 => by
          rcases Nat.lt_or_ge x j with h3 | h3
          · exact HA.out x h1 h3
          · obtain rfl : x = j := by omega
            rw [HK.out, HZ.out], trivial⟩, by simp [intOf] <;> omega⟩
      · have b1 : (kindF (gI l j) true != 0) = true := by simpa using hz
        have HZ := Lib.hid hz
        clear hz
        go_wp2_with fail
        go_ret
        refine ⟨ret_int ?_, hx0⟩
        have : runR l true 0 0 = j := runR_eq (by omega) (by omega) HA.out (by rw [HK.out]; exact HZ.out)
        unfold firstF
        rw [this, if_pos (by rw [hlen.out]; exact hlt)]
    · have HF : Hid (firstF l = n - 1) := by
        show firstF l = n - 1
        have : runR l true 0 0 = n := runR_eq (by omega) (by omega) (fun x h1 h2 => HA.out x h1 (by omega)) (by rw [kindAt_out (by rw [hlen.out]; omega)]; omega)
        unfold firstF
        rw [this, if_neg (by rw [hlen.out]; omega), hlen.out]
      go_wp2_with fail
      all_goals
        go_ret
        refine ⟨ret_int ?_, hx0⟩
        rw [HF.out]
        omega

set_option maxRecDepth 20000 in
set_option maxHeartbeats 2000000 in
theorem words_ok {A : Option Addr} {n c : Nat} {k g X : Nat} {op big : Bool} {w : World} (hnc : n ≤ c) (hcm : c ≤ maxLen) (hn : n ≤ 4096) (hk : k ≤ n) (h0 : 0 < n) (hX : X ≤ n)
    (H : Hid (∀ w1 : World, Ext w w1 → Calls Try.prog 63 #[.agg #[.slice A n c, .int .i64 k, .int .i64 g, .bool op], .func (.func 71) #[] #[], .bool big] w1 fun e w' => e = .returned (.int .i64 X) ∧ Ext w1 w')) :
    Calls Try.prog 64 #[.agg #[.slice A n c, .int .i64 k, .int .i64 g, .bool op], .bool big] w fun e w' => e = outP (if op = true then some (X, false) else if min X (n - 1) = k then none else some (min X (n - 1), false)) ∧ Ext w w' := by
  unfold maxLen at hcm
  have hx0 : Ext w ((w.alloc (.cells #[.slice A n c, .int .i64 k, .int .i64 g, .bool op] 99)).alloc (.cells #[.int .i64 0, .bool false] 101)) := (Ext.alloc _ _).to_alloc _
  have hb2 := place_new w (.slice A n c) (.int .i64 k) (.int .i64 g) (.bool op)
  have hb1 := goer_new w (.slice A n c) (.int .i64 k) (.int .i64 g) (.bool op)
  cases op
  · by_cases hz : min X (n - 1) = k
    · have HZ := Lib.hid hz
      have b1 : decide (min (X : Int) ((n : Int) - 1) = (k : Int)) = true := by simp; omega
      have b2 : (min (X : Int) ((n : Int) - 1) == (k : Int)) = true := by simp; omega
      rw [if_neg (by simp), if_pos hz]
      clear hz
      go_enter Try.func64, Try.ntmps64
      go_wp2_with fail
      refine (H.out _ hx0).mono ?_
      rintro e w1 ⟨rfl, he1⟩
      have hq2 := hb2.ext he1
      have hq1 := hb1.ext he1
      have HB := Lib.hid hq2
      have HE := Lib.hid (hx0.trans he1)
      have c0 := hq2.cell 0
      have c1 := hq2.cell 1
      have f0 := hq2.frozen 0
      have f1 := hq2.frozen 1
      have d0 := hq1.cell 0
      have d1 := hq1.cell 1
      have d2 := hq1.cell 2
      have d3 := hq1.cell 3
      simp only [List.getElem?_toArray, List.getElem?_cons_zero, List.getElem?_cons_succ] at c0 c1 d0 d1 d2 d3
      clear hb2 hb1 hx0 he1 hq1 hq2
      go_wp2_with fail
      all_goals first
        | (exfalso; have := HZ.out; omega)
        | (obtain ⟨c6, c7, hx, hx1, hx2⟩ := slot_facts HB.out HE.out (by simp)
           refine bodyPost_ret (by simp [results, Try.results64, go_sem, c6, c7]; try rfl) rfl ?_
           refine ⟨rfl, by first | exact hx _ _ | exact HE.out | exact hx1 _ | exact hx2 _⟩)
    · have HZ := Lib.hid hz
      have b1 : (min (X : Int) ((n : Int) - 1) == (k : Int)) = false := by simp; omega
      rw [if_neg (by simp), if_neg hz]
      clear hz
      go_enter Try.func64, Try.ntmps64
      go_wp2_with fail
      refine (H.out _ hx0).mono ?_
      rintro e w1 ⟨rfl, he1⟩
      have hq2 := hb2.ext he1
      have hq1 := hb1.ext he1
      have HB := Lib.hid hq2
      have HE := Lib.hid (hx0.trans he1)
      have c0 := hq2.cell 0
      have c1 := hq2.cell 1
      have f0 := hq2.frozen 0
      have f1 := hq2.frozen 1
      have d0 := hq1.cell 0
      have d1 := hq1.cell 1
      have d2 := hq1.cell 2
      have d3 := hq1.cell 3
      simp only [List.getElem?_toArray, List.getElem?_cons_zero, List.getElem?_cons_succ] at c0 c1 d0 d1 d2 d3
      clear hb2 hb1 hx0 he1 hq1 hq2
      go_wp2_with fail
      all_goals first
        | (exfalso; have := HZ.out; omega)
        | (obtain ⟨c6, c7, hx, hx1, hx2⟩ := slot_facts HB.out HE.out (by simp)
           refine bodyPost_ret (by simp [results, Try.results64, go_sem, c6, c7]; try rfl) rfl ?_
           refine ⟨ret_place (by have := HZ.out; omega), by first | exact hx _ _ | exact HE.out | exact hx1 _ | exact hx2 _⟩)
  · rw [if_pos rfl]
    go_enter Try.func64, Try.ntmps64
    go_wp2_with fail
    refine (H.out _ hx0).mono ?_
    rintro e w1 ⟨rfl, he1⟩
    have hq2 := hb2.ext he1
    have hq1 := hb1.ext he1
    have HB := Lib.hid hq2
    have HE := Lib.hid (hx0.trans he1)
    have c0 := hq2.cell 0
    have c1 := hq2.cell 1
    have f0 := hq2.frozen 0
    have f1 := hq2.frozen 1
    have d0 := hq1.cell 0
    have d1 := hq1.cell 1
    have d2 := hq1.cell 2
    have d3 := hq1.cell 3
    simp only [List.getElem?_toArray, List.getElem?_cons_zero, List.getElem?_cons_succ] at c0 c1 d0 d1 d2 d3
    clear hb2 hb1 hx0 he1 hq1 hq2
    go_wp2_with fail
    all_goals
      obtain ⟨c6, c7, hx, hx1, hx2⟩ := slot_facts HB.out HE.out (by simp)
      refine bodyPost_ret (by simp [results, Try.results64, go_sem, c6, c7]; try rfl) rfl ?_
      refine ⟨rfl, by first | exact hx _ _ | exact HE.out | exact hx1 _ | exact hx2 _⟩

set_option maxRecDepth 20000 in
set_option maxHeartbeats 2000000 in
theorem ends_ok {A : Option Addr} {n c : Nat} {k g X : Nat} {op big : Bool} {w : World} (hnc : n ≤ c) (hcm : c ≤ maxLen) (hn : n ≤ 4096) (hk : k ≤ n) (h0 : 0 < n) (hX : X ≤ n)
    (H : Hid (∀ w1 : World, Ext w w1 → Calls Try.prog 63 #[.agg #[.slice A n c, .int .i64 k, .int .i64 g, .bool op], .func (.func 72) #[] #[], .bool big] w1 fun e w' => e = .returned (.int .i64 X) ∧ Ext w1 w')) :
    Calls Try.prog 65 #[.agg #[.slice A n c, .int .i64 k, .int .i64 g, .bool op], .bool big] w fun e w' => e = outP (if op = false ∧ X = k then none else some (X, true)) ∧ Ext w w' := by
  unfold maxLen at hcm
  have hx0 : Ext w ((w.alloc (.cells #[.slice A n c, .int .i64 k, .int .i64 g, .bool op] 99)).alloc (.cells #[.int .i64 0, .bool false] 101)) := (Ext.alloc _ _).to_alloc _
  have hb2 := place_new w (.slice A n c) (.int .i64 k) (.int .i64 g) (.bool op)
  have hb1 := goer_new w (.slice A n c) (.int .i64 k) (.int .i64 g) (.bool op)
  cases op
  · by_cases hz : X = k
    · have HZ := Lib.hid hz
      rw [if_pos ⟨rfl, hz⟩]
      have b2 : ((X : Int) == (k : Int)) = true := by simp; omega
      clear hz
      go_enter Try.func65, Try.ntmps65
      go_wp2_with fail
      refine (H.out _ hx0).mono ?_
      rintro e w1 ⟨rfl, he1⟩
      have hq2 := hb2.ext he1
      have hq1 := hb1.ext he1
      have HB := Lib.hid hq2
      have HE := Lib.hid (hx0.trans he1)
      have c0 := hq2.cell 0
      have c1 := hq2.cell 1
      have f0 := hq2.frozen 0
      have f1 := hq2.frozen 1
      have d0 := hq1.cell 0
      have d1 := hq1.cell 1
      have d2 := hq1.cell 2
      have d3 := hq1.cell 3
      simp only [List.getElem?_toArray, List.getElem?_cons_zero, List.getElem?_cons_succ] at c0 c1 d0 d1 d2 d3
      clear hb2 hb1 hx0 he1 hq1 hq2
      go_wp2_with fail
      all_goals first
        | (exfalso; have := HZ.out; omega)
        | (obtain ⟨c6, c7, hx, hx1, hx2⟩ := slot_facts HB.out HE.out (by simp)
           refine bodyPost_ret (by simp [results, Try.results65, go_sem, c6, c7]; try rfl) rfl ?_
           refine ⟨rfl, by first | exact hx _ _ | exact HE.out | exact hx1 _ | exact hx2 _⟩)
    · have HZ := Lib.hid hz
      have b1 : ((X : Int) == (k : Int)) = false := by simp; omega
      rw [if_neg (by simp [hz])]
      clear hz
      go_enter Try.func65, Try.ntmps65
      go_wp2_with fail
      refine (H.out _ hx0).mono ?_
      rintro e w1 ⟨rfl, he1⟩
      have hq2 := hb2.ext he1
      have hq1 := hb1.ext he1
      have HB := Lib.hid hq2
      have HE := Lib.hid (hx0.trans he1)
      have c0 := hq2.cell 0
      have c1 := hq2.cell 1
      have f0 := hq2.frozen 0
      have f1 := hq2.frozen 1
      have d0 := hq1.cell 0
      have d1 := hq1.cell 1
      have d2 := hq1.cell 2
      have d3 := hq1.cell 3
      simp only [List.getElem?_toArray, List.getElem?_cons_zero, List.getElem?_cons_succ] at c0 c1 d0 d1 d2 d3
      clear hb2 hb1 hx0 he1 hq1 hq2
      go_wp2_with fail
      all_goals first
        | (exfalso; have := HZ.out; omega)
        | (obtain ⟨c6, c7, hx, hx1, hx2⟩ := slot_facts HB.out HE.out (by simp)
           refine bodyPost_ret (by simp [results, Try.results65, go_sem, c6, c7]; try rfl) rfl ?_
           refine ⟨rfl, by first | exact hx _ _ | exact HE.out | exact hx1 _ | exact hx2 _⟩)
  · rw [if_neg (by simp)]
    go_enter Try.func65, Try.ntmps65
    go_wp2_with fail
    refine (H.out _ hx0).mono ?_
    rintro e w1 ⟨rfl, he1⟩
    have hq2 := hb2.ext he1
    have hq1 := hb1.ext he1
    have HB := Lib.hid hq2
    have HE := Lib.hid (hx0.trans he1)
    have c0 := hq2.cell 0
    have c1 := hq2.cell 1
    have f0 := hq2.frozen 0
    have f1 := hq2.frozen 1
    have d0 := hq1.cell 0
    have d1 := hq1.cell 1
    have d2 := hq1.cell 2
    have d3 := hq1.cell 3
    simp only [List.getElem?_toArray, List.getElem?_cons_zero, List.getElem?_cons_succ] at c0 c1 d0 d1 d2 d3
    clear hb2 hb1 hx0 he1 hq1 hq2
    go_wp2_with fail
    all_goals
      obtain ⟨c6, c7, hx, hx1, hx2⟩ := slot_facts HB.out HE.out (by simp)
      refine bodyPost_ret (by simp [results, Try.results65, go_sem, c6, c7]; try rfl) rfl ?_
      refine ⟨rfl, by first | exact hx _ _ | exact HE.out | exact hx1 _ | exact hx2 _⟩
end Go.Proofs.Ytmhgndjmcignjaa
