/-
  The walks of package motion: Check, Go, Range.
-/
import Derived.Test.YtmhgndjmcignjaaZMotS
import Derived.Test.YtmhgndjmcignjaaZMotG

namespace Go.Proofs.Ytmhgndjmcignjaa
open Go.RowKit
set_option linter.unusedVariables false
set_option linter.unusedSimpArgs false

def outG : Option (Nat × Bool) → Ending
  | some (a, i) => .returned (.tuple #[.int .i64 a, .bool i, .int .i64 0])
  | none => .returned (.tuple #[.int .i64 0, .bool false, .int .i64 5])
theorem outG_some (a : Nat) (i : Bool) : outG (some (a, i)) = .returned (.tuple #[.int .i64 a, .bool i, .int .i64 0]) := rfl
theorem outG_none : outG none = .returned (.tuple #[.int .i64 0, .bool false, .int .i64 5]) := rfl
/-- What Check lets by. -/
def okM (n : Nat) (k key cnt : Int) : Prop := n ≤ 4096 ∧ 0 ≤ k ∧ (k = 0 ∨ k < n) ∧ 0 ≤ cnt ∧ cnt ≤ 999 ∧ (isPlain key || isFind key) = true

set_option maxRecDepth 20000 in
set_option maxHeartbeats 4000000 in
theorem mcheck_all {A : Option Addr} {n c : Nat} {k key cnt arg : Int} {w : World} (hnc : n ≤ c) (hcm : c ≤ maxLen) :
    Calls Try.prog 50 #[.slice A n c, .int .i64 k, .agg #[.int .i64 key, .int .i64 cnt, .int .i64 arg]] w fun e w' => (∃ er : Int, e = .returned (.int .i64 er) ∧ ((er = 0 ∧ okM n k key cnt) ∨ ((er != 0) = true ∧ ¬ okM n k key cnt))) ∧ Ext w w' := by
  unfold maxLen at hcm
  by_cases hn : 4096 < n
  · have HN : Hid (¬ okM n k key cnt) := Lib.hid (fun h => by have := h.1; omega)
    go_enter Try.func50, Try.ntmps50
    go_wp2_with fail
    go_ret
    exact ⟨⟨_, rfl, .inr ⟨rfl, HN.out⟩⟩, Ext.alloc _ _⟩
  by_cases hk : k < 0 ∨ (0 < k ∧ (n : Int) ≤ k) ∨ cnt < 0 ∨ 999 < cnt
  · have HN : Hid (¬ okM n k key cnt) := Lib.hid (fun h => by obtain ⟨_, h1, h2, h3, h4, _⟩ := h; omega)
    have hp : ∀ v : Int, Hid (k < 0 ∨ (0 < k ∧ (n : Int) ≤ k) ∨ cnt < 0 ∨ 999 < cnt) := fun _ => Lib.hid hk
    clear hk
    go_enter Try.func50, Try.ntmps50
    go_wp2_with fail
    all_goals (try (exfalso; have := (hp 0).out; omega))
    all_goals
      go_ret
      exact ⟨⟨1, rfl, .inr ⟨by decide, HN.out⟩⟩, Ext.alloc _ _⟩
  · have hm : k ≤ if (1 : Int) < n then (n : Int) - 1 else 0 := by split <;> omega
    have HK := Lib.hid (known_all key (w.alloc (.cells #[.int .i64 key, .int .i64 cnt, .int .i64 arg] 80)))
    rcases hb : (isPlain key || isFind key) with _ | _
    · have HN : Hid (¬ okM n k key cnt) := Lib.hid (fun h => by have := h.2.2.2.2.2; rw [hb] at this; cases this)
      rw [hb] at HK
      have h1 : ¬ k < 0 := by omega
      have h2 : ¬ cnt < 0 := by omega
      have h3 : ¬ 999 < cnt := by omega
      clear hb hk
      go_enter Try.func50, Try.ntmps50
      go_wp2_with fail
      all_goals
        refine HK.out.mono ?_
        rintro e w1 ⟨rfl, rfl⟩
        go_wp2_with fail
        go_ret
        exact ⟨⟨_, rfl, .inr ⟨rfl, HN.out⟩⟩, Ext.alloc _ _⟩
    · have HN : Hid (okM n k key cnt) := Lib.hid ⟨by omega, by omega, by omega, by omega, by omega, hb⟩
      rw [hb] at HK
      have h1 : ¬ k < 0 := by omega
      have h2 : ¬ cnt < 0 := by omega
      have h3 : ¬ 999 < cnt := by omega
      clear hb hk
      go_enter Try.func50, Try.ntmps50
      go_wp2_with fail
      all_goals
        refine HK.out.mono ?_
        rintro e w1 ⟨rfl, rfl⟩
        go_wp2_with fail
        go_ret
        exact ⟨⟨_, rfl, .inl ⟨rfl, HN.out⟩⟩, Ext.alloc _ _⟩

set_option maxRecDepth 20000 in
set_option maxHeartbeats 2000000 in
theorem mgo_bad {A : Option Addr} {n c : Nat} {k key cnt arg er : Int} {op : Bool} {w : World} (hC : Hid (∀ w : World, Calls Try.prog 50 #[.slice A n c, .int .i64 k, .agg #[.int .i64 key, .int .i64 cnt, .int .i64 arg]] w fun e w' => e = .returned (.int .i64 er) ∧ Ext w w')) (her : (er != 0) = true) :
    Calls Try.prog 37 #[.slice A n c, .int .i64 k, .agg #[.int .i64 key, .int .i64 cnt, .int .i64 arg], .bool op] w fun e w' => e = .returned (.tuple #[.int .i64 0, .bool false, .int .i64 er]) ∧ Ext w w' := by
  go_enter Try.func37, Try.ntmps37
  go_wp2_with fail
  refine (hC.out _).mono ?_
  rintro e w1 ⟨rfl, he1⟩
  go_wp2_with fail
  go_ret3
  exact ⟨rfl, (Ext.alloc _ _).trans he1⟩

set_option maxRecDepth 20000 in
set_option maxHeartbeats 4000000 in
theorem mgo_plain0 {A : Option Addr} {n c : Nat} {k : Nat} {key arg : Int}  {op : Bool} {R : Option (Nat × Bool) → Prop} {w : World}
    (HC : Hid (∀ w : World, Calls Try.prog 50 #[.slice A n c, .int .i64 k, .agg #[.int .i64 key, .int .i64 0, .int .i64 arg]] w fun e w' => e = .returned (.int .i64 0) ∧ Ext w w'))
    (HK : Hid (∀ w : World, Calls Try.prog 51 #[.int .i64 key] w fun e w' => e = .returned (.tuple #[.bool true, .bool false]) ∧ w = w'))
    (HP : Hid (∀ w1 : World, Ext w w1 → Calls Try.prog 53 #[.agg #[.slice A n c, .int .i64 k, .int .i64 1, .bool op], .int .i64 key] w1 fun e w' => (∃ o, R o ∧ e = outP o) ∧ Ext w1 w')) :
    Calls Try.prog 37 #[.slice A n c, .int .i64 k, .agg #[.int .i64 key, .int .i64 0, .int .i64 arg], .bool op] w fun e w' => (∃ o, R o ∧ e = outG o) ∧ Ext w w' := by
  have hx := Ext.alloc w (.cells #[.int .i64 key, .int .i64 0, .int .i64 arg] 80)
  have hb := Blk.new w 80 #[.int .i64 key, .int .i64 0, .int .i64 arg]
  go_enter Try.func37, Try.ntmps37
  go_wp2_with fail
  refine (HC.out _).mono ?_
  rintro e w1 ⟨rfl, he1⟩
  have hb1 := hb.ext he1
  have he := hx.trans he1
  have c0 := hb1.cell 0
  have c1 := hb1.cell 1
  have c2 := hb1.cell 2
  simp only [List.getElem?_toArray, List.getElem?_cons_zero, List.getElem?_cons_succ] at c0 c1 c2
  clear hx hb he1
  have hws := he.hsize
  have hx2 : Ext w1 ((w1.alloc (.cells #[.slice A n c, .int .i64 k, .int .i64 1, .bool op] 99)).alloc (.cells #[.int .i64 0, .bool false] 101)) := (Ext.alloc _ _).to_alloc _
  have d0 := hx2.cell c0
  have d2 := hx2.cell c2
  have hb3 := (Blk.new w1 99 #[.slice A n c, .int .i64 k, .int .i64 1, .bool op]).ext (Ext.alloc _ (.cells #[.int .i64 0, .bool false] 101))
  have hb4 : Blk ((w1.alloc (.cells #[.slice A n c, .int .i64 k, .int .i64 1, .bool op] 99)).alloc (.cells #[.int .i64 0, .bool false] 101)) (w1.heap.size + 1) 101 #[.int .i64 0, .bool false] := by
    simpa using Blk.new (w1.alloc (.cells #[.slice A n c, .int .i64 k, .int .i64 1, .bool op] 99)) 101 #[.int .i64 0, .bool false]
  go_wp2_with fail
  refine (HK.out _).mono ?_
  rintro e w2 ⟨rfl, rfl⟩
  go_wp2_with fail
  refine (HP.out _ (he.trans hx2)).mono ?_
  rintro e w3 ⟨⟨o, hR, hO⟩, he3⟩
  have HR := Lib.hid hR
  clear hR
  have hq := hb4.ext he3
  have f0 := hq.frozen 0
  have f1 := hq.frozen 1
  have c4 := hq.cell 0
  have c5 := hq.cell 1
  simp only [List.getElem?_toArray, List.getElem?_cons_zero, List.getElem?_cons_succ] at c4 c5
  clear HP hb4 hb3 c0 c1 c2 d0 d2 hb1
  rcases o with _ | ⟨m, i⟩
  · rw [outP_none] at hO
    subst hO
    go_wp2_with fail
    have hbf : Blk ((w3.setCell ⟨w1.heap.size + 1, 0, none⟩ (.int .i64 0)).setCell ⟨w1.heap.size + 1, 1, none⟩ (.bool false)) (w1.heap.size + 1) 101 #[.int .i64 0, .bool false] := by
      simpa using (hq.set_ 0 (.int .i64 0)).set_ 1 (.bool false)
    have hef := ((he.trans (hx2.trans he3)).setCell (p := ⟨w1.heap.size + 1, 0, none⟩) (Nat.le_succ_of_le hws) (.int .i64 0)).setCell (p := ⟨w1.heap.size + 1, 1, none⟩) (Nat.le_succ_of_le hws) (.bool false)
    clear c4 c5 f0 f1 hq
    revert hbf hef
    generalize (w3.setCell ⟨w1.heap.size + 1, 0, none⟩ (.int .i64 0)).setCell ⟨w1.heap.size + 1, 1, none⟩ (.bool false) = w4
    intro hbf hef
    have c6 := hbf.cell 0
    have c7 := hbf.cell 1
    simp only [List.getElem?_toArray, List.getElem?_cons_zero, List.getElem?_cons_succ] at c6 c7
    clear hbf
    go_quiet (fail)
    go_wp2_with fail
    go_ret3
    exact ⟨⟨_, HR.out, rfl⟩, hef.to_drewN _⟩
  · rw [outP_some] at hO
    subst hO
    go_wp2_with fail
    have hbf : Blk ((w3.setCell ⟨w1.heap.size + 1, 0, none⟩ (.int .i64 (m : Int))).setCell ⟨w1.heap.size + 1, 1, none⟩ (.bool i)) (w1.heap.size + 1) 101 #[.int .i64 (m : Int), .bool i] := by
      simpa using (hq.set_ 0 (.int .i64 (m : Int))).set_ 1 (.bool i)
    have hef := ((he.trans (hx2.trans he3)).setCell (p := ⟨w1.heap.size + 1, 0, none⟩) (Nat.le_succ_of_le hws) (.int .i64 (m : Int))).setCell (p := ⟨w1.heap.size + 1, 1, none⟩) (Nat.le_succ_of_le hws) (.bool i)
    clear c4 c5 f0 f1 hq
    revert hbf hef
    generalize (w3.setCell ⟨w1.heap.size + 1, 0, none⟩ (.int .i64 (m : Int))).setCell ⟨w1.heap.size + 1, 1, none⟩ (.bool i) = w4
    intro hbf hef
    have c6 := hbf.cell 0
    have c7 := hbf.cell 1
    simp only [List.getElem?_toArray, List.getElem?_cons_zero, List.getElem?_cons_succ] at c6 c7
    clear hbf
    go_quiet (fail)
    go_wp2_with fail
    go_ret3
    exact ⟨⟨_, HR.out, rfl⟩, hef.to_drewN _⟩

set_option maxRecDepth 20000 in
set_option maxHeartbeats 4000000 in
theorem mgo_plain1 {A : Option Addr} {n c : Nat} {k : Nat} {key arg : Int}  {op : Bool} {R : Option (Nat × Bool) → Prop} {w : World}
    (HC : Hid (∀ w : World, Calls Try.prog 50 #[.slice A n c, .int .i64 k, .agg #[.int .i64 key, .int .i64 1, .int .i64 arg]] w fun e w' => e = .returned (.int .i64 0) ∧ Ext w w'))
    (HK : Hid (∀ w : World, Calls Try.prog 51 #[.int .i64 key] w fun e w' => e = .returned (.tuple #[.bool true, .bool false]) ∧ w = w'))
    (HP : Hid (∀ w1 : World, Ext w w1 → Calls Try.prog 53 #[.agg #[.slice A n c, .int .i64 k, .int .i64 1, .bool op], .int .i64 key] w1 fun e w' => (∃ o, R o ∧ e = outP o) ∧ Ext w1 w')) :
    Calls Try.prog 37 #[.slice A n c, .int .i64 k, .agg #[.int .i64 key, .int .i64 1, .int .i64 arg], .bool op] w fun e w' => (∃ o, R o ∧ e = outG o) ∧ Ext w w' := by
  have hx := Ext.alloc w (.cells #[.int .i64 key, .int .i64 1, .int .i64 arg] 80)
  have hb := Blk.new w 80 #[.int .i64 key, .int .i64 1, .int .i64 arg]
  go_enter Try.func37, Try.ntmps37
  go_wp2_with fail
  refine (HC.out _).mono ?_
  rintro e w1 ⟨rfl, he1⟩
  have hb1 := hb.ext he1
  have he := hx.trans he1
  have c0 := hb1.cell 0
  have c1 := hb1.cell 1
  have c2 := hb1.cell 2
  simp only [List.getElem?_toArray, List.getElem?_cons_zero, List.getElem?_cons_succ] at c0 c1 c2
  clear hx hb he1
  have hws := he.hsize
  have hx2 : Ext w1 ((w1.alloc (.cells #[.slice A n c, .int .i64 k, .int .i64 1, .bool op] 99)).alloc (.cells #[.int .i64 0, .bool false] 101)) := (Ext.alloc _ _).to_alloc _
  have d0 := hx2.cell c0
  have d2 := hx2.cell c2
  have hb3 := (Blk.new w1 99 #[.slice A n c, .int .i64 k, .int .i64 1, .bool op]).ext (Ext.alloc _ (.cells #[.int .i64 0, .bool false] 101))
  have hb4 : Blk ((w1.alloc (.cells #[.slice A n c, .int .i64 k, .int .i64 1, .bool op] 99)).alloc (.cells #[.int .i64 0, .bool false] 101)) (w1.heap.size + 1) 101 #[.int .i64 0, .bool false] := by
    simpa using Blk.new (w1.alloc (.cells #[.slice A n c, .int .i64 k, .int .i64 1, .bool op] 99)) 101 #[.int .i64 0, .bool false]
  go_wp2_with fail
  refine (HK.out _).mono ?_
  rintro e w2 ⟨rfl, rfl⟩
  go_wp2_with fail
  refine (HP.out _ (he.trans hx2)).mono ?_
  rintro e w3 ⟨⟨o, hR, hO⟩, he3⟩
  have HR := Lib.hid hR
  clear hR
  have hq := hb4.ext he3
  have f0 := hq.frozen 0
  have f1 := hq.frozen 1
  have c4 := hq.cell 0
  have c5 := hq.cell 1
  simp only [List.getElem?_toArray, List.getElem?_cons_zero, List.getElem?_cons_succ] at c4 c5
  clear HP hb4 hb3 c0 c1 c2 d0 d2 hb1
  rcases o with _ | ⟨m, i⟩
  · rw [outP_none] at hO
    subst hO
    go_wp2_with fail
    have hbf : Blk ((w3.setCell ⟨w1.heap.size + 1, 0, none⟩ (.int .i64 0)).setCell ⟨w1.heap.size + 1, 1, none⟩ (.bool false)) (w1.heap.size + 1) 101 #[.int .i64 0, .bool false] := by
      simpa using (hq.set_ 0 (.int .i64 0)).set_ 1 (.bool false)
    have hef := ((he.trans (hx2.trans he3)).setCell (p := ⟨w1.heap.size + 1, 0, none⟩) (Nat.le_succ_of_le hws) (.int .i64 0)).setCell (p := ⟨w1.heap.size + 1, 1, none⟩) (Nat.le_succ_of_le hws) (.bool false)
    clear c4 c5 f0 f1 hq
    revert hbf hef
    generalize (w3.setCell ⟨w1.heap.size + 1, 0, none⟩ (.int .i64 0)).setCell ⟨w1.heap.size + 1, 1, none⟩ (.bool false) = w4
    intro hbf hef
    have c6 := hbf.cell 0
    have c7 := hbf.cell 1
    simp only [List.getElem?_toArray, List.getElem?_cons_zero, List.getElem?_cons_succ] at c6 c7
    clear hbf
    go_quiet (fail)
    go_wp2_with fail
    go_ret3
    exact ⟨⟨_, HR.out, rfl⟩, hef.to_drewN _⟩
  · rw [outP_some] at hO
    subst hO
    go_wp2_with fail
    have hbf : Blk ((w3.setCell ⟨w1.heap.size + 1, 0, none⟩ (.int .i64 (m : Int))).setCell ⟨w1.heap.size + 1, 1, none⟩ (.bool i)) (w1.heap.size + 1) 101 #[.int .i64 (m : Int), .bool i] := by
      simpa using (hq.set_ 0 (.int .i64 (m : Int))).set_ 1 (.bool i)
    have hef := ((he.trans (hx2.trans he3)).setCell (p := ⟨w1.heap.size + 1, 0, none⟩) (Nat.le_succ_of_le hws) (.int .i64 (m : Int))).setCell (p := ⟨w1.heap.size + 1, 1, none⟩) (Nat.le_succ_of_le hws) (.bool i)
    clear c4 c5 f0 f1 hq
    revert hbf hef
    generalize (w3.setCell ⟨w1.heap.size + 1, 0, none⟩ (.int .i64 (m : Int))).setCell ⟨w1.heap.size + 1, 1, none⟩ (.bool i) = w4
    intro hbf hef
    have c6 := hbf.cell 0
    have c7 := hbf.cell 1
    simp only [List.getElem?_toArray, List.getElem?_cons_zero, List.getElem?_cons_succ] at c6 c7
    clear hbf
    go_quiet (fail)
    go_wp2_with fail
    go_ret3
    exact ⟨⟨_, HR.out, rfl⟩, hef.to_drewN _⟩

set_option maxRecDepth 20000 in
set_option maxHeartbeats 4000000 in
theorem mgo_plainq {A : Option Addr} {n c : Nat} {k : Nat} {key arg : Int} {q : Nat} (hq2 : 2 ≤ q) {op : Bool} {R : Option (Nat × Bool) → Prop} {w : World}
    (HC : Hid (∀ w : World, Calls Try.prog 50 #[.slice A n c, .int .i64 k, .agg #[.int .i64 key, .int .i64 q, .int .i64 arg]] w fun e w' => e = .returned (.int .i64 0) ∧ Ext w w'))
    (HK : Hid (∀ w : World, Calls Try.prog 51 #[.int .i64 key] w fun e w' => e = .returned (.tuple #[.bool true, .bool false]) ∧ w = w'))
    (HP : Hid (∀ w1 : World, Ext w w1 → Calls Try.prog 53 #[.agg #[.slice A n c, .int .i64 k, .int .i64 q, .bool op], .int .i64 key] w1 fun e w' => (∃ o, R o ∧ e = outP o) ∧ Ext w1 w')) :
    Calls Try.prog 37 #[.slice A n c, .int .i64 k, .agg #[.int .i64 key, .int .i64 q, .int .i64 arg], .bool op] w fun e w' => (∃ o, R o ∧ e = outG o) ∧ Ext w w' := by
  have hx := Ext.alloc w (.cells #[.int .i64 key, .int .i64 q, .int .i64 arg] 80)
  have hb := Blk.new w 80 #[.int .i64 key, .int .i64 q, .int .i64 arg]
  go_enter Try.func37, Try.ntmps37
  go_wp2_with fail
  refine (HC.out _).mono ?_
  rintro e w1 ⟨rfl, he1⟩
  have hb1 := hb.ext he1
  have he := hx.trans he1
  have c0 := hb1.cell 0
  have c1 := hb1.cell 1
  have c2 := hb1.cell 2
  simp only [List.getElem?_toArray, List.getElem?_cons_zero, List.getElem?_cons_succ] at c0 c1 c2
  clear hx hb he1
  have hws := he.hsize
  have hx2 : Ext w1 ((w1.alloc (.cells #[.slice A n c, .int .i64 k, .int .i64 q, .bool op] 99)).alloc (.cells #[.int .i64 0, .bool false] 101)) := (Ext.alloc _ _).to_alloc _
  have d0 := hx2.cell c0
  have d2 := hx2.cell c2
  have hb3 := (Blk.new w1 99 #[.slice A n c, .int .i64 k, .int .i64 q, .bool op]).ext (Ext.alloc _ (.cells #[.int .i64 0, .bool false] 101))
  have hb4 : Blk ((w1.alloc (.cells #[.slice A n c, .int .i64 k, .int .i64 q, .bool op] 99)).alloc (.cells #[.int .i64 0, .bool false] 101)) (w1.heap.size + 1) 101 #[.int .i64 0, .bool false] := by
    simpa using Blk.new (w1.alloc (.cells #[.slice A n c, .int .i64 k, .int .i64 q, .bool op] 99)) 101 #[.int .i64 0, .bool false]
  go_wp2_with fail
  refine (HK.out _).mono ?_
  rintro e w2 ⟨rfl, rfl⟩
  go_wp2_with fail
  refine (HP.out _ (he.trans hx2)).mono ?_
  rintro e w3 ⟨⟨o, hR, hO⟩, he3⟩
  have HR := Lib.hid hR
  clear hR
  have hq := hb4.ext he3
  have f0 := hq.frozen 0
  have f1 := hq.frozen 1
  have c4 := hq.cell 0
  have c5 := hq.cell 1
  simp only [List.getElem?_toArray, List.getElem?_cons_zero, List.getElem?_cons_succ] at c4 c5
  clear HP hb4 hb3 c0 c1 c2 d0 d2 hb1
  rcases o with _ | ⟨m, i⟩
  · rw [outP_none] at hO
    subst hO
    go_wp2_with fail
    have hbf : Blk ((w3.setCell ⟨w1.heap.size + 1, 0, none⟩ (.int .i64 0)).setCell ⟨w1.heap.size + 1, 1, none⟩ (.bool false)) (w1.heap.size + 1) 101 #[.int .i64 0, .bool false] := by
      simpa using (hq.set_ 0 (.int .i64 0)).set_ 1 (.bool false)
    have hef := ((he.trans (hx2.trans he3)).setCell (p := ⟨w1.heap.size + 1, 0, none⟩) (Nat.le_succ_of_le hws) (.int .i64 0)).setCell (p := ⟨w1.heap.size + 1, 1, none⟩) (Nat.le_succ_of_le hws) (.bool false)
    clear c4 c5 f0 f1 hq
    revert hbf hef
    generalize (w3.setCell ⟨w1.heap.size + 1, 0, none⟩ (.int .i64 0)).setCell ⟨w1.heap.size + 1, 1, none⟩ (.bool false) = w4
    intro hbf hef
    have c6 := hbf.cell 0
    have c7 := hbf.cell 1
    simp only [List.getElem?_toArray, List.getElem?_cons_zero, List.getElem?_cons_succ] at c6 c7
    clear hbf
    go_quiet (fail)
    go_wp2_with fail
    go_ret3
    exact ⟨⟨_, HR.out, rfl⟩, hef.to_drewN _⟩
  · rw [outP_some] at hO
    subst hO
    go_wp2_with fail
    have hbf : Blk ((w3.setCell ⟨w1.heap.size + 1, 0, none⟩ (.int .i64 (m : Int))).setCell ⟨w1.heap.size + 1, 1, none⟩ (.bool i)) (w1.heap.size + 1) 101 #[.int .i64 (m : Int), .bool i] := by
      simpa using (hq.set_ 0 (.int .i64 (m : Int))).set_ 1 (.bool i)
    have hef := ((he.trans (hx2.trans he3)).setCell (p := ⟨w1.heap.size + 1, 0, none⟩) (Nat.le_succ_of_le hws) (.int .i64 (m : Int))).setCell (p := ⟨w1.heap.size + 1, 1, none⟩) (Nat.le_succ_of_le hws) (.bool i)
    clear c4 c5 f0 f1 hq
    revert hbf hef
    generalize (w3.setCell ⟨w1.heap.size + 1, 0, none⟩ (.int .i64 (m : Int))).setCell ⟨w1.heap.size + 1, 1, none⟩ (.bool i) = w4
    intro hbf hef
    have c6 := hbf.cell 0
    have c7 := hbf.cell 1
    simp only [List.getElem?_toArray, List.getElem?_cons_zero, List.getElem?_cons_succ] at c6 c7
    clear hbf
    go_quiet (fail)
    go_wp2_with fail
    go_ret3
    exact ⟨⟨_, HR.out, rfl⟩, hef.to_drewN _⟩

set_option maxRecDepth 20000 in
set_option maxHeartbeats 4000000 in
theorem mgo_found0 {A : Option Addr} {n c : Nat} {k : Nat} {key arg : Int}  {op : Bool} {R : Option (Nat × Bool) → Prop} {w : World}
    (HC : Hid (∀ w : World, Calls Try.prog 50 #[.slice A n c, .int .i64 k, .agg #[.int .i64 key, .int .i64 0, .int .i64 arg]] w fun e w' => e = .returned (.int .i64 0) ∧ Ext w w'))
    (HK : Hid (∀ w : World, Calls Try.prog 51 #[.int .i64 key] w fun e w' => e = .returned (.tuple #[.bool true, .bool true]) ∧ w = w'))
    (HP : Hid (∀ w1 : World, Ext w w1 → Calls Try.prog 52 #[.agg #[.slice A n c, .int .i64 k, .int .i64 1, .bool op], .int .i64 key, .int .i64 arg] w1 fun e w' => (∃ o, R o ∧ e = outP o) ∧ Ext w1 w')) :
    Calls Try.prog 37 #[.slice A n c, .int .i64 k, .agg #[.int .i64 key, .int .i64 0, .int .i64 arg], .bool op] w fun e w' => (∃ o, R o ∧ e = outG o) ∧ Ext w w' := by
  have hx := Ext.alloc w (.cells #[.int .i64 key, .int .i64 0, .int .i64 arg] 80)
  have hb := Blk.new w 80 #[.int .i64 key, .int .i64 0, .int .i64 arg]
  go_enter Try.func37, Try.ntmps37
  go_wp2_with fail
  refine (HC.out _).mono ?_
  rintro e w1 ⟨rfl, he1⟩
  have hb1 := hb.ext he1
  have he := hx.trans he1
  have c0 := hb1.cell 0
  have c1 := hb1.cell 1
  have c2 := hb1.cell 2
  simp only [List.getElem?_toArray, List.getElem?_cons_zero, List.getElem?_cons_succ] at c0 c1 c2
  clear hx hb he1
  have hws := he.hsize
  have hx2 : Ext w1 ((w1.alloc (.cells #[.slice A n c, .int .i64 k, .int .i64 1, .bool op] 99)).alloc (.cells #[.int .i64 0, .bool false] 101)) := (Ext.alloc _ _).to_alloc _
  have d0 := hx2.cell c0
  have d2 := hx2.cell c2
  have hb3 := (Blk.new w1 99 #[.slice A n c, .int .i64 k, .int .i64 1, .bool op]).ext (Ext.alloc _ (.cells #[.int .i64 0, .bool false] 101))
  have hb4 : Blk ((w1.alloc (.cells #[.slice A n c, .int .i64 k, .int .i64 1, .bool op] 99)).alloc (.cells #[.int .i64 0, .bool false] 101)) (w1.heap.size + 1) 101 #[.int .i64 0, .bool false] := by
    simpa using Blk.new (w1.alloc (.cells #[.slice A n c, .int .i64 k, .int .i64 1, .bool op] 99)) 101 #[.int .i64 0, .bool false]
  go_wp2_with fail
  refine (HK.out _).mono ?_
  rintro e w2 ⟨rfl, rfl⟩
  go_wp2_with fail
  refine (HP.out _ (he.trans hx2)).mono ?_
  rintro e w3 ⟨⟨o, hR, hO⟩, he3⟩
  have HR := Lib.hid hR
  clear hR
  have hq := hb4.ext he3
  have f0 := hq.frozen 0
  have f1 := hq.frozen 1
  have c4 := hq.cell 0
  have c5 := hq.cell 1
  simp only [List.getElem?_toArray, List.getElem?_cons_zero, List.getElem?_cons_succ] at c4 c5
  clear HP hb4 hb3 c0 c1 c2 d0 d2 hb1
  rcases o with _ | ⟨m, i⟩
  · rw [outP_none] at hO
    subst hO
    go_wp2_with fail
    have hbf : Blk ((w3.setCell ⟨w1.heap.size + 1, 0, none⟩ (.int .i64 0)).setCell ⟨w1.heap.size + 1, 1, none⟩ (.bool false)) (w1.heap.size + 1) 101 #[.int .i64 0, .bool false] := by
      simpa using (hq.set_ 0 (.int .i64 0)).set_ 1 (.bool false)
    have hef := ((he.trans (hx2.trans he3)).setCell (p := ⟨w1.heap.size + 1, 0, none⟩) (Nat.le_succ_of_le hws) (.int .i64 0)).setCell (p := ⟨w1.heap.size + 1, 1, none⟩) (Nat.le_succ_of_le hws) (.bool false)
    clear c4 c5 f0 f1 hq
    revert hbf hef
    generalize (w3.setCell ⟨w1.heap.size + 1, 0, none⟩ (.int .i64 0)).setCell ⟨w1.heap.size + 1, 1, none⟩ (.bool false) = w4
    intro hbf hef
    have c6 := hbf.cell 0
    have c7 := hbf.cell 1
    simp only [List.getElem?_toArray, List.getElem?_cons_zero, List.getElem?_cons_succ] at c6 c7
    clear hbf
    go_quiet (fail)
    go_wp2_with fail
    go_ret3
    exact ⟨⟨_, HR.out, rfl⟩, hef.to_drewN _⟩
  · rw [outP_some] at hO
    subst hO
    go_wp2_with fail
    have hbf : Blk ((w3.setCell ⟨w1.heap.size + 1, 0, none⟩ (.int .i64 (m : Int))).setCell ⟨w1.heap.size + 1, 1, none⟩ (.bool i)) (w1.heap.size + 1) 101 #[.int .i64 (m : Int), .bool i] := by
      simpa using (hq.set_ 0 (.int .i64 (m : Int))).set_ 1 (.bool i)
    have hef := ((he.trans (hx2.trans he3)).setCell (p := ⟨w1.heap.size + 1, 0, none⟩) (Nat.le_succ_of_le hws) (.int .i64 (m : Int))).setCell (p := ⟨w1.heap.size + 1, 1, none⟩) (Nat.le_succ_of_le hws) (.bool i)
    clear c4 c5 f0 f1 hq
    revert hbf hef
    generalize (w3.setCell ⟨w1.heap.size + 1, 0, none⟩ (.int .i64 (m : Int))).setCell ⟨w1.heap.size + 1, 1, none⟩ (.bool i) = w4
    intro hbf hef
    have c6 := hbf.cell 0
    have c7 := hbf.cell 1
    simp only [List.getElem?_toArray, List.getElem?_cons_zero, List.getElem?_cons_succ] at c6 c7
    clear hbf
    go_quiet (fail)
    go_wp2_with fail
    go_ret3
    exact ⟨⟨_, HR.out, rfl⟩, hef.to_drewN _⟩

set_option maxRecDepth 20000 in
set_option maxHeartbeats 4000000 in
theorem mgo_found1 {A : Option Addr} {n c : Nat} {k : Nat} {key arg : Int}  {op : Bool} {R : Option (Nat × Bool) → Prop} {w : World}
    (HC : Hid (∀ w : World, Calls Try.prog 50 #[.slice A n c, .int .i64 k, .agg #[.int .i64 key, .int .i64 1, .int .i64 arg]] w fun e w' => e = .returned (.int .i64 0) ∧ Ext w w'))
    (HK : Hid (∀ w : World, Calls Try.prog 51 #[.int .i64 key] w fun e w' => e = .returned (.tuple #[.bool true, .bool true]) ∧ w = w'))
    (HP : Hid (∀ w1 : World, Ext w w1 → Calls Try.prog 52 #[.agg #[.slice A n c, .int .i64 k, .int .i64 1, .bool op], .int .i64 key, .int .i64 arg] w1 fun e w' => (∃ o, R o ∧ e = outP o) ∧ Ext w1 w')) :
    Calls Try.prog 37 #[.slice A n c, .int .i64 k, .agg #[.int .i64 key, .int .i64 1, .int .i64 arg], .bool op] w fun e w' => (∃ o, R o ∧ e = outG o) ∧ Ext w w' := by
  have hx := Ext.alloc w (.cells #[.int .i64 key, .int .i64 1, .int .i64 arg] 80)
  have hb := Blk.new w 80 #[.int .i64 key, .int .i64 1, .int .i64 arg]
  go_enter Try.func37, Try.ntmps37
  go_wp2_with fail
  refine (HC.out _).mono ?_
  rintro e w1 ⟨rfl, he1⟩
  have hb1 := hb.ext he1
  have he := hx.trans he1
  have c0 := hb1.cell 0
  have c1 := hb1.cell 1
  have c2 := hb1.cell 2
  simp only [List.getElem?_toArray, List.getElem?_cons_zero, List.getElem?_cons_succ] at c0 c1 c2
  clear hx hb he1
  have hws := he.hsize
  have hx2 : Ext w1 ((w1.alloc (.cells #[.slice A n c, .int .i64 k, .int .i64 1, .bool op] 99)).alloc (.cells #[.int .i64 0, .bool false] 101)) := (Ext.alloc _ _).to_alloc _
  have d0 := hx2.cell c0
  have d2 := hx2.cell c2
  have hb3 := (Blk.new w1 99 #[.slice A n c, .int .i64 k, .int .i64 1, .bool op]).ext (Ext.alloc _ (.cells #[.int .i64 0, .bool false] 101))
  have hb4 : Blk ((w1.alloc (.cells #[.slice A n c, .int .i64 k, .int .i64 1, .bool op] 99)).alloc (.cells #[.int .i64 0, .bool false] 101)) (w1.heap.size + 1) 101 #[.int .i64 0, .bool false] := by
    simpa using Blk.new (w1.alloc (.cells #[.slice A n c, .int .i64 k, .int .i64 1, .bool op] 99)) 101 #[.int .i64 0, .bool false]
  go_wp2_with fail
  refine (HK.out _).mono ?_
  rintro e w2 ⟨rfl, rfl⟩
  go_wp2_with fail
  refine (HP.out _ (he.trans hx2)).mono ?_
  rintro e w3 ⟨⟨o, hR, hO⟩, he3⟩
  have HR := Lib.hid hR
  clear hR
  have hq := hb4.ext he3
  have f0 := hq.frozen 0
  have f1 := hq.frozen 1
  have c4 := hq.cell 0
  have c5 := hq.cell 1
  simp only [List.getElem?_toArray, List.getElem?_cons_zero, List.getElem?_cons_succ] at c4 c5
  clear HP hb4 hb3 c0 c1 c2 d0 d2 hb1
  rcases o with _ | ⟨m, i⟩
  · rw [outP_none] at hO
    subst hO
    go_wp2_with fail
    have hbf : Blk ((w3.setCell ⟨w1.heap.size + 1, 0, none⟩ (.int .i64 0)).setCell ⟨w1.heap.size + 1, 1, none⟩ (.bool false)) (w1.heap.size + 1) 101 #[.int .i64 0, .bool false] := by
      simpa using (hq.set_ 0 (.int .i64 0)).set_ 1 (.bool false)
    have hef := ((he.trans (hx2.trans he3)).setCell (p := ⟨w1.heap.size + 1, 0, none⟩) (Nat.le_succ_of_le hws) (.int .i64 0)).setCell (p := ⟨w1.heap.size + 1, 1, none⟩) (Nat.le_succ_of_le hws) (.bool false)
    clear c4 c5 f0 f1 hq
    revert hbf hef
    generalize (w3.setCell ⟨w1.heap.size + 1, 0, none⟩ (.int .i64 0)).setCell ⟨w1.heap.size + 1, 1, none⟩ (.bool false) = w4
    intro hbf hef
    have c6 := hbf.cell 0
    have c7 := hbf.cell 1
    simp only [List.getElem?_toArray, List.getElem?_cons_zero, List.getElem?_cons_succ] at c6 c7
    clear hbf
    go_quiet (fail)
    go_wp2_with fail
    go_ret3
    exact ⟨⟨_, HR.out, rfl⟩, hef.to_drewN _⟩
  · rw [outP_some] at hO
    subst hO
    go_wp2_with fail
    have hbf : Blk ((w3.setCell ⟨w1.heap.size + 1, 0, none⟩ (.int .i64 (m : Int))).setCell ⟨w1.heap.size + 1, 1, none⟩ (.bool i)) (w1.heap.size + 1) 101 #[.int .i64 (m : Int), .bool i] := by
      simpa using (hq.set_ 0 (.int .i64 (m : Int))).set_ 1 (.bool i)
    have hef := ((he.trans (hx2.trans he3)).setCell (p := ⟨w1.heap.size + 1, 0, none⟩) (Nat.le_succ_of_le hws) (.int .i64 (m : Int))).setCell (p := ⟨w1.heap.size + 1, 1, none⟩) (Nat.le_succ_of_le hws) (.bool i)
    clear c4 c5 f0 f1 hq
    revert hbf hef
    generalize (w3.setCell ⟨w1.heap.size + 1, 0, none⟩ (.int .i64 (m : Int))).setCell ⟨w1.heap.size + 1, 1, none⟩ (.bool i) = w4
    intro hbf hef
    have c6 := hbf.cell 0
    have c7 := hbf.cell 1
    simp only [List.getElem?_toArray, List.getElem?_cons_zero, List.getElem?_cons_succ] at c6 c7
    clear hbf
    go_quiet (fail)
    go_wp2_with fail
    go_ret3
    exact ⟨⟨_, HR.out, rfl⟩, hef.to_drewN _⟩

set_option maxRecDepth 20000 in
set_option maxHeartbeats 4000000 in
theorem mgo_foundq {A : Option Addr} {n c : Nat} {k : Nat} {key arg : Int} {q : Nat} (hq2 : 2 ≤ q) {op : Bool} {R : Option (Nat × Bool) → Prop} {w : World}
    (HC : Hid (∀ w : World, Calls Try.prog 50 #[.slice A n c, .int .i64 k, .agg #[.int .i64 key, .int .i64 q, .int .i64 arg]] w fun e w' => e = .returned (.int .i64 0) ∧ Ext w w'))
    (HK : Hid (∀ w : World, Calls Try.prog 51 #[.int .i64 key] w fun e w' => e = .returned (.tuple #[.bool true, .bool true]) ∧ w = w'))
    (HP : Hid (∀ w1 : World, Ext w w1 → Calls Try.prog 52 #[.agg #[.slice A n c, .int .i64 k, .int .i64 q, .bool op], .int .i64 key, .int .i64 arg] w1 fun e w' => (∃ o, R o ∧ e = outP o) ∧ Ext w1 w')) :
    Calls Try.prog 37 #[.slice A n c, .int .i64 k, .agg #[.int .i64 key, .int .i64 q, .int .i64 arg], .bool op] w fun e w' => (∃ o, R o ∧ e = outG o) ∧ Ext w w' := by
  have hx := Ext.alloc w (.cells #[.int .i64 key, .int .i64 q, .int .i64 arg] 80)
  have hb := Blk.new w 80 #[.int .i64 key, .int .i64 q, .int .i64 arg]
  go_enter Try.func37, Try.ntmps37
  go_wp2_with fail
  refine (HC.out _).mono ?_
  rintro e w1 ⟨rfl, he1⟩
  have hb1 := hb.ext he1
  have he := hx.trans he1
  have c0 := hb1.cell 0
  have c1 := hb1.cell 1
  have c2 := hb1.cell 2
  simp only [List.getElem?_toArray, List.getElem?_cons_zero, List.getElem?_cons_succ] at c0 c1 c2
  clear hx hb he1
  have hws := he.hsize
  have hx2 : Ext w1 ((w1.alloc (.cells #[.slice A n c, .int .i64 k, .int .i64 q, .bool op] 99)).alloc (.cells #[.int .i64 0, .bool false] 101)) := (Ext.alloc _ _).to_alloc _
  have d0 := hx2.cell c0
  have d2 := hx2.cell c2
  have hb3 := (Blk.new w1 99 #[.slice A n c, .int .i64 k, .int .i64 q, .bool op]).ext (Ext.alloc _ (.cells #[.int .i64 0, .bool false] 101))
  have hb4 : Blk ((w1.alloc (.cells #[.slice A n c, .int .i64 k, .int .i64 q, .bool op] 99)).alloc (.cells #[.int .i64 0, .bool false] 101)) (w1.heap.size + 1) 101 #[.int .i64 0, .bool false] := by
    simpa using Blk.new (w1.alloc (.cells #[.slice A n c, .int .i64 k, .int .i64 q, .bool op] 99)) 101 #[.int .i64 0, .bool false]
  go_wp2_with fail
  refine (HK.out _).mono ?_
  rintro e w2 ⟨rfl, rfl⟩
  go_wp2_with fail
  refine (HP.out _ (he.trans hx2)).mono ?_
  rintro e w3 ⟨⟨o, hR, hO⟩, he3⟩
  have HR := Lib.hid hR
  clear hR
  have hq := hb4.ext he3
  have f0 := hq.frozen 0
  have f1 := hq.frozen 1
  have c4 := hq.cell 0
  have c5 := hq.cell 1
  simp only [List.getElem?_toArray, List.getElem?_cons_zero, List.getElem?_cons_succ] at c4 c5
  clear HP hb4 hb3 c0 c1 c2 d0 d2 hb1
  rcases o with _ | ⟨m, i⟩
  · rw [outP_none] at hO
    subst hO
    go_wp2_with fail
    have hbf : Blk ((w3.setCell ⟨w1.heap.size + 1, 0, none⟩ (.int .i64 0)).setCell ⟨w1.heap.size + 1, 1, none⟩ (.bool false)) (w1.heap.size + 1) 101 #[.int .i64 0, .bool false] := by
      simpa using (hq.set_ 0 (.int .i64 0)).set_ 1 (.bool false)
    have hef := ((he.trans (hx2.trans he3)).setCell (p := ⟨w1.heap.size + 1, 0, none⟩) (Nat.le_succ_of_le hws) (.int .i64 0)).setCell (p := ⟨w1.heap.size + 1, 1, none⟩) (Nat.le_succ_of_le hws) (.bool false)
    clear c4 c5 f0 f1 hq
    revert hbf hef
    generalize (w3.setCell ⟨w1.heap.size + 1, 0, none⟩ (.int .i64 0)).setCell ⟨w1.heap.size + 1, 1, none⟩ (.bool false) = w4
    intro hbf hef
    have c6 := hbf.cell 0
    have c7 := hbf.cell 1
    simp only [List.getElem?_toArray, List.getElem?_cons_zero, List.getElem?_cons_succ] at c6 c7
    clear hbf
    go_quiet (fail)
    go_wp2_with fail
    go_ret3
    exact ⟨⟨_, HR.out, rfl⟩, hef.to_drewN _⟩
  · rw [outP_some] at hO
    subst hO
    go_wp2_with fail
    have hbf : Blk ((w3.setCell ⟨w1.heap.size + 1, 0, none⟩ (.int .i64 (m : Int))).setCell ⟨w1.heap.size + 1, 1, none⟩ (.bool i)) (w1.heap.size + 1) 101 #[.int .i64 (m : Int), .bool i] := by
      simpa using (hq.set_ 0 (.int .i64 (m : Int))).set_ 1 (.bool i)
    have hef := ((he.trans (hx2.trans he3)).setCell (p := ⟨w1.heap.size + 1, 0, none⟩) (Nat.le_succ_of_le hws) (.int .i64 (m : Int))).setCell (p := ⟨w1.heap.size + 1, 1, none⟩) (Nat.le_succ_of_le hws) (.bool i)
    clear c4 c5 f0 f1 hq
    revert hbf hef
    generalize (w3.setCell ⟨w1.heap.size + 1, 0, none⟩ (.int .i64 (m : Int))).setCell ⟨w1.heap.size + 1, 1, none⟩ (.bool i) = w4
    intro hbf hef
    have c6 := hbf.cell 0
    have c7 := hbf.cell 1
    simp only [List.getElem?_toArray, List.getElem?_cons_zero, List.getElem?_cons_succ] at c6 c7
    clear hbf
    go_quiet (fail)
    go_wp2_with fail
    go_ret3
    exact ⟨⟨_, HR.out, rfl⟩, hef.to_drewN _⟩

end Go.Proofs.Ytmhgndjmcignjaa
