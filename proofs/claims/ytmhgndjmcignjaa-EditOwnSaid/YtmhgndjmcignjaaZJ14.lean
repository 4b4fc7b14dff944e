/-
  The walks of package motion: Check, Go, Range.
-/
import Derived.Test.YtmhgndjmcignjaaZMotS
import Derived.Test.YtmhgndjmcignjaaZMotG

namespace Go.Proofs.Ytmhgndjmcignjaa
open Go.RowKit
set_option linter.unusedVariables false
set_option linter.unusedSimpArgs false

def outG : Option (Nat × Bool) → Ending
  | some (a, i) => .returned (.tuple #[.int .i64 a, .bool i, .int .i64 0])
  | none => .returned (.tuple #[.int .i64 0, .bool false, .int .i64 5])
theorem outG_some (a : Nat) (i : Bool) : outG (some (a, i)) = .returned (.tuple #[.int .i64 a, .bool i, .int .i64 0]) := rfl
theorem outG_none : outG none = .returned (.tuple #[.int .i64 0, .bool false, .int .i64 5]) := rfl
/-- What Check lets by. -/
def okM (n : Nat) (k key cnt : Int) : Prop := n ≤ 4096 ∧ 0 ≤ k ∧ (k = 0 ∨ k < n) ∧ 0 ≤ cnt ∧ cnt ≤ 999 ∧ (isPlain key || isFind key) = true

set_option maxRecDepth 20000 in
set_option maxHeartbeats 4000000 in
theorem mcheck_all {A : Option Addr} {n c : Nat} {k key cnt arg : Int} {w : World} (hnc : n ≤ c) (hcm : c ≤ maxLen) :
    Calls Try.prog 50 #[.slice A n c, .int .i64 k, .agg #[.int .i64 key, .int .i64 cnt, .int .i64 arg]] w fun e w' => (∃ er : Int, e = .returned (.int .i64 er) ∧ ((er = 0 ∧ okM n k key cnt) ∨ ((er != 0) = true ∧ ¬ okM n k key cnt))) ∧ Ext w w' := by
  unfold maxLen at hcm
  by_cases hn : 4096 < n
  · have HN : Hid (¬ okM n k key cnt) := Lib.hid (fun h => by have := h.1; omega)
    go_enter Try.func50, Try.ntmps50
    go_wp2_with fail
    go_ret
    exact ⟨⟨_, rfl, .inr ⟨rfl, HN.out⟩⟩, Ext.alloc _ _⟩
  by_cases hk : k < 0 ∨ (0 < k ∧ (n : Int) ≤ k) ∨ cnt < 0 ∨ 999 < cnt
  · have HN : Hid (¬ okM n k key cnt) := Lib.hid (fun h => by obtain ⟨_, h1, h2, h3, h4, _⟩ := h; omega)
    have hp : ∀ v : Int, Hid (k < 0 ∨ (0 < k ∧ (n : Int) ≤ k) ∨ cnt < 0 ∨ 999 < cnt) := fun _ => Lib.hid hk
    clear hk
    go_enter Try.func50, Try.ntmps50
    go_wp2_with fail
    all_goals (try (exfalso; have := (hp 0).out; omega))
    all_goals
      go_ret
      exact ⟨⟨1, rfl, .inr ⟨by decide, HN.out⟩⟩, Ext.alloc _ _⟩
  · have hm : k ≤ if (1 : Int) < n then (n : Int) - 1 else 0 := by split <;> omega
    have HK := Lib.hid (known_all key (w.alloc (.cells #[.int .i64 key, .int .i64 cnt, .int .i64 arg] 80)))
    rcases hb : (isPlain key || isFind key) with _ | _
    · have HN : Hid (¬ okM n k key cnt) := Lib.hid (fun h => by have := h.2.2.2.2.2; rw [hb] at this; cases this)
      rw [hb] at HK
      have h1 : ¬ k < 0 := by omega
      have h2 : ¬ cnt < 0 := by omega
      have h3 : ¬ 999 < cnt := by omega
      clear hb hk
      go_enter Try.func50, Try.ntmps50
      go_wp2_with fail
      all_goals
        refine HK.out.mono ?_
        rintro e w1 ⟨rfl, rfl⟩
        go_wp2_with fail
        go_ret
        exact ⟨⟨_, rfl, .inr ⟨rfl, HN.out⟩⟩, Ext.alloc _ _⟩
    · have HN : Hid (okM n k key cnt) := Lib.hid ⟨by omega, by omega, by omega, by omega, by omega, hb⟩
      rw [hb] at HK
      have h1 : ¬ k < 0 := by omega
      have h2 : ¬ cnt < 0 := by omega
      have h3 : ¬ 999 < cnt := by omega
      clear hb hk
      go_enter Try.func50, Try.ntmps50
      go_wp2_with fail
      all_goals
        refine HK.out.mono ?_
        rintro e w1 ⟨rfl, rfl⟩
        go_wp2_with fail
        go_ret
        exact ⟨⟨_, rfl, .inl ⟨rfl, HN.out⟩⟩, Ext.alloc _ _⟩

set_option maxRecDepth 20000 in
set_option maxHeartbeats 2000000 in
theorem mgo_bad {A : Option Addr} {n c : Nat} {k key cnt arg er : Int} {op : Bool} {w : World} (hC : Hid (∀ w : World, Calls Try.prog 50 #[.slice A n c, .int .i64 k, .agg #[.int .i64 key, .int .i64 cnt, .int .i64 arg]] w fun e w' => e = .returned (.int .i64 er) ∧ Ext w w')) (her : (er != 0) = true) :
    Calls Try.prog 37 #[.slice A n c, .int .i64 k, .agg #[.int .i64 key, .int .i64 cnt, .int .i64 arg], .bool op] w fun e w' => e = .returned (.tuple #[.int .i64 0, .bool false, .int .i64 er]) ∧ Ext w w' := by
  go_enter Try.func37, Try.ntmps37
  go_wp2_with fail
  refine (hC.out _).mono ?_
  rintro e w1 ⟨rfl, he1⟩
  go_wp2_with fail
  go_ret3
  exact ⟨rfl, (Ext.alloc _ _).trans he1⟩

set_option maxRecDepth 20000 in
set_option maxHeartbeats 4000000 in
theorem mgo_plain0 {A : Option Addr} {n c : Nat} {k : Nat} {key arg : Int}  {op : Bool} {R : Option (Nat × Bool) → Prop} {w : World}
    (HC : Hid (∀ w : World, Calls Try.prog 50 #[.slice A n c, .int .i64 k, .agg #[.int .i64 key, .int .i64 0, .int .i64 arg]] w fun e w' => e = .returned (.int .i64 0) ∧ Ext w w'))
    (HK : Hid (∀ w : World, Calls Try.prog 51 #[.int .i64 key] w fun e w' => e = .returned (.tuple #[.bool true, .bool false]) ∧ w = w'))
    (HP : Hid (∀ w1 : World, Ext w w1 → Calls Try.prog 53 #[.agg #[.slice A n c, .int .i64 k, .int .i64 1, .bool op], .int .i64 key] w1 fun e w' => (∃ o, R o ∧ e = outP o) ∧ Ext w1 w')) :
    Calls Try.prog 37 #[.slice A n c, .int .i64 k, .agg #[.int .i64 key, .int .i64 0, .int .i64 arg], .bool op] w fun e w' => (∃ o, R o ∧ e = outG o) ∧ Ext w w' := by
  have hx := Ext.alloc w (.cells #[.int .i64 key, .int .i64 0, .int .i64 arg] 80)
  have hb := Blk.new w 80 #[.int .i64 key, .int .i64 0, .int .i64 arg]
  go_enter Try.func37, Try.ntmps37
  go_wp2_with fail
  refine (HC.out _).mono ?_
  rintro e w1 ⟨rfl, he1⟩
  have hb1 := hb.ext he1
  have he := hx.trans he1
  have c0 := hb1.cell 0
  have c1 := hb1.cell 1
  have c2 := hb1.cell 2
  simp only [List.getElem?_toArray, List.getElem?_cons_zero, List.getElem?_cons_succ] at c0 c1 c2
  clear hx hb he1
  have hws := he.hsize
  have hx2 : Ext w1 ((w1.alloc (.cells #[.slice A n c, .int .i64 k, .int .i64 1, .bool op] 99)).alloc (.cells #[.int .i64 0, .bool false] 101)) := (Ext.alloc _ _).to_alloc _
  have d0 := hx2.cell c0
  have d2 := hx2.cell c2
  have hb3 := (Blk.new w1 99 #[.slice A n c, .int .i64 k, .int .i64 1, .bool op]).ext (Ext.alloc _ (.cells #[.int .i64 0, .bool false] 101))
  have hb4 : Blk ((w1.alloc (.cells #[.slice A n c, .int .i64 k, .int .i64 1, .bool op] 99)).alloc (.cells #[.int .i64 0, .bool false] 101)) (w1.heap.size + 1) 101 #[.int .i64 0, .bool false] := by
    simpa using Blk.new (w1.alloc (.cells #[.slice A n c, .int .i64 k, .int .i64 1, .bool op] 99)) 101 #[.int .i64 0, .bool false]
  go_wp2_with fail
  refine (HK.out _).mono ?_
  rintro e w2 ⟨rfl, rfl⟩
  go_wp2_with fail
  refine (HP.out _ (he.trans hx2)).mono ?_
  rintro e w3 ⟨⟨o, hR, hO⟩, he3⟩
  have HR := Lib.hid hR
  clear hR
  have hq := hb4.ext he3
  have f0 := hq.frozen 0
  have f1 := hq.frozen 1
  have c4 := hq.cell 0
  have c5 := hq.cell 1
  simp only [List.getElem?_toArray, List.getElem?_cons_zero, List.getElem?_cons_succ] at c4 c5
  clear HP hb4 hb3 c0 c1 c2 d0 d2 hb1
  rcases o with _ | ⟨m, i⟩
  · rw [outP_none] at hO
    subst hO
    go_wp2_with fail
    have hbf : Blk ((w3.setCell ⟨w1.heap.size + 1, 0, none⟩ (.int .i64 0)).setCell ⟨w1.heap.size + 1, 1, none⟩ (.bool false)) (w1.heap.size + 1) 101 #[.int .i64 0, .bool false] := by
      simpa using (hq.set_ 0 (.int .i64 0)).set_ 1 (.bool false)
    have hef := ((he.trans (hx2.trans he3)).setCell (p := ⟨w1.heap.size + 1, 0, none⟩) (Nat.le_succ_of_le hws) (.int .i64 0)).setCell (p := ⟨w1.heap.size + 1, 1, none⟩) (Nat.le_succ_of_le hws) (.bool false)
    clear c4 c5 f0 f1 hq
    revert hbf hef
    generalize (w3.setCell ⟨w1.heap.size + 1, 0, none⟩ (.int .i64 0)).setCell ⟨w1.heap.size + 1, 1, none⟩ (.bool false) = w4
    intro hbf hef
    have c6 := hbf.cell 0
    have c7 := hbf.cell 1
    simp only [List.getElem?_toArray, List.getElem?_cons_zero, List.getElem?_cons_succ] at c6 c7
    clear hbf
    go_quiet (fail)
    go_wp2_with fail
    go_ret3
    exact ⟨⟨_, HR.out, rfl⟩, hef.to_drewN _⟩
  · rw [outP_some] at hO
    subst hO
    go_wp2_with fail
    have hbf : Blk ((w3.setCell ⟨w1.heap.size + 1, 0, none⟩ (.int .i64 (m : Int))).setCell ⟨w1.heap.size + 1, 1, none⟩ (.bool i)) (w1.heap.size + 1) 101 #[.int .i64 (m : Int), .bool i] := by
      simpa using (hq.set_ 0 (.int .i64 (m : Int))).set_ 1 (.bool i)
    have hef := ((he.trans (hx2.trans he3)).setCell (p := ⟨w1.heap.size + 1, 0, none⟩) (Nat.le_succ_of_le hws) (.int .i64 (m : Int))).setCell (p := ⟨w1.heap.size + 1, 1, none⟩) (Nat.le_succ_of_le hws) (.bool i)
    clear c4 c5 f0 f1 hq
    revert hbf hef
    generalize (w3.setCell ⟨w1.heap.size + 1, 0, none⟩ (.int .i64 (m : Int))).setCell ⟨w1.heap.size + 1, 1, none⟩ (.bool i) = w4
    intro hbf hef
    have c6 := hbf.cell 0
    have c7 := hbf.cell 1
    simp only [List.getElem?_toArray, List.getElem?_cons_zero, List.getElem?_cons_succ] at c6 c7
    clear hbf
    go_quiet (fail)
    go_wp2_with fail
    go_ret3
    exact ⟨⟨_, HR.out, rfl⟩, hef.to_drewN _⟩

set_option maxRecDepth 20000 in
set_option maxHeartbeats 4000000 in
theorem mgo_plain1 {A : Option Addr} {n c : Nat} {k : Nat} {key arg : Int}  {op : Bool} {R : Option (Nat × Bool) → Prop} {w : World}
    (HC : Hid (∀ w : World, Calls Try.prog 50 #[.slice A n c, .int .i64 k, .agg #[.int .i64 key, .int .i64 1, .int .i64 arg]] w fun e w' => e = .returned (.int .i64 0) ∧ Ext w w'))
    (HK : Hid (∀ w : World, Calls Try.prog 51 #[.int .i64 key] w fun e w' => e = .returned (.tuple #[.bool true, .bool false]) ∧ w = w'))
    (HP : Hid (∀ w1 : World, Ext w w1 → Calls Try.prog 53 #[.agg #[.slice A n c, .int .i64 k, .int .i64 1, .bool op], .int .i64 key] w1 fun e w' => (∃ o, R o ∧ e = outP o) ∧ Ext w1 w')) :
    Calls Try.prog 37 #[.slice A n c, .int .i64 k, .agg #[.int .i64 key, .int .i64 1, .int .i64 arg], .bool op] w fun e w' => (∃ o, R o ∧ e = outG o) ∧ Ext w w' := by
  have hx := Ext.alloc w (.cells #[.int .i64 key, .int .i64 1, .int .i64 arg] 80)
  have hb := Blk.new w 80 #[.int .i64 key, .int .i64 1, .int .i64 arg]
  go_enter Try.func37, Try.ntmps37
  go_wp2_with fail
  refine (HC.out _).mono ?_
  rintro e w1 ⟨rfl, he1⟩
  have hb1 := hb.ext he1
  have he := hx.trans he1
  have c0 := hb1.cell 0
  have c1 := hb1.cell 1
  have c2 := hb1.cell 2
  simp only [List.getElem?_toArray, List.getElem?_cons_zero, List.getElem?_cons_succ] at c0 c1 c2
  clear hx hb he1
  have hws := he.hsize
  have hx2 : Ext w1 ((w1.alloc (.cells #[.slice A n c, .int .i64 k, .int .i64 1, .bool op] 99)).alloc (.cells #[.int .i64 0, .bool false] 101)) := (Ext.alloc _ _).to_alloc _
  have d0 := hx2.cell c0
  have d2 := hx2.cell c2
  have hb3 := (Blk.new w1 99 #[.slice A n c, .int .i64 k, .int .i64 1, .bool op]).ext (Ext.alloc _ (.cells #[.int .i64 0, .bool false] 101))
  have hb4 : Blk ((w1.alloc (.cells #[.slice A n c, .int .i64 k, .int .i64 1, .bool op] 99)).alloc (.cells #[.int .i64 0, .bool false] 101)) (w1.heap.size + 1) 101 #[.int .i64 0, .bool false] := by
    simpa using Blk.new (w1.alloc (.cells #[.slice A n c, .int .i64 k, .int .i64 1, .bool op] 99)) 101 #[.int .i64 0, .bool false]
  go_wp2_with fail
  refine (HK.out _).mono ?_
  rintro e w2 ⟨rfl, rfl⟩
  go_wp2_with fail
  refine (HP.out _ (he.trans hx2)).mono ?_
  rintro e w3 ⟨⟨o, hR, hO⟩, he3⟩
  have HR := Lib.hid hR
  clear hR
  have hq := hb4.ext he3
  have f0 := hq.frozen 0
  have f1 := hq.frozen 1
  have c4 := hq.cell 0
  have c5 := hq.cell 1
  simp only [List.getElem?_toArray, List.getElem?_cons_zero, List.getElem?_cons_succ] at c4 c5
  clear HP hb4 hb3 c0 c1 c2 d0 d2 hb1
  rcases o with _ | ⟨m, i⟩
  · rw [outP_none] at hO
    subst hO
    go_wp2_with fail
    have hbf : Blk ((w3.setCell ⟨w1.heap.size + 1, 0, none⟩ (.int .i64 0)).setCell ⟨w1.heap.size + 1, 1, none⟩ (.bool false)) (w1.heap.size + 1) 101 #[.int .i64 0, .bool false] := by
      simpa using (hq.set_ 0 (.int .i64 0)).set_ 1 (.bool false)
    have hef := ((he.trans (hx2.trans he3)).setCell (p := ⟨w1.heap.size + 1, 0, none⟩) (Nat.le_succ_of_le hws) (.int .i64 0)).setCell (p := ⟨w1.heap.size + 1, 1, none⟩) (Nat.le_succ_of_le hws) (.bool false)
    clear c4 c5 f0 f1 hq
    revert hbf hef
    generalize (w3.setCell ⟨w1.heap.size + 1, 0, none⟩ (.int .i64 0)).setCell ⟨w1.heap.size + 1, 1, none⟩ (.bool false) = w4
    intro hbf hef
    have c6 := hbf.cell 0
    have c7 := hbf.cell 1
    simp only [List.getElem?_toArray, List.getElem?_cons_zero, List.getElem?_cons_succ] at c6 c7
    clear hbf
    go_quiet (fail)
    go_wp2_with fail
    go_ret3
    exact ⟨⟨_, HR.out, rfl⟩, hef.to_drewN _⟩
  · rw [outP_some] at hO
    subst hO
    go_wp2_with fail
    have hbf : Blk ((w3.setCell ⟨w1.heap.size + 1, 0, none⟩ (.int .i64 (m : Int))).setCell ⟨w1.heap.size + 1, 1, none⟩ (.bool i)) (w1.heap.size + 1) 101 #[.int .i64 (m : Int), .bool i] := by
      simpa using (hq.set_ 0 (.int .i64 (m : Int))).set_ 1 (.bool i)
    have hef := ((he.trans (hx2.trans he3)).setCell (p := ⟨w1.heap.size + 1, 0, none⟩) (Nat.le_succ_of_le hws) (.int .i64 (m : Int))).setCell (p := ⟨w1.heap.size + 1, 1, none⟩) (Nat.le_succ_of_le hws) (.bool i)
    clear c4 c5 f0 f1 hq
    revert hbf hef
    generalize (w3.setCell ⟨w1.heap.size + 1, 0, none⟩ (.int .i64 (m : Int))).setCell ⟨w1.heap.size + 1, 1, none⟩ (.bool i) = w4
    intro hbf hef
    have c6 := hbf.cell 0
    have c7 := hbf.cell 1
    simp only [List.getElem?_toArray, List.getElem?_cons_zero, List.getElem?_cons_succ] at c6 c7
    clear hbf
    go_quiet (fail)
    go_wp2_with fail
    go_ret3
    exact ⟨⟨_, HR.out, rfl⟩, hef.to_drewN _⟩

set_option maxRecDepth 20000 in
set_option maxHeartbeats 4000000 in
theorem mgo_plainq {A : Option Addr} {n c : Nat} {k : Nat} {key arg : Int} {q : Nat} (hq2 : 2 ≤ q) {op : Bool} {R : Option (Nat × Bool) → Prop} {w : World}
    (HC : Hid (∀ w : World, Calls Try.prog 50 #[.slice A n c, .int .i64 k, .agg #[.int .i64 key, .int .i64 q, .int .i64 arg]] w fun e w' => e = .returned (.int .i64 0) ∧ Ext w w'))
    (HK : Hid (∀ w : World, Calls Try.prog 51 #[.int .i64 key] w fun e w' => e = .returned (.tuple #[.bool true, .bool false]) ∧ w = w'))
    (HP : Hid (∀ w1 : World, Ext w w1 → Calls Try.prog 53 #[.agg #[.slice A n c, .int .i64 k, .int .i64 q, .bool op], .int .i64 key] w1 fun e w' => (∃ o, R o ∧ e = outP o) ∧ Ext w1 w')) :
    Calls Try.prog 37 #[.slice A n c, .int .i64 k, .agg #[.int .i64 key, .int .i64 q, .int .i64 arg], .bool op] w fun e w' => (∃ o, R o ∧ e = outG o) ∧ Ext w w' := by
  have hx := Ext.alloc w (.cells #[.int .i64 key, .int .i64 q, .int .i64 arg] 80)
  have hb := Blk.new w 80 #[.int .i64 key, .int .i64 q, .int .i64 arg]
  go_enter Try.func37, Try.ntmps37
  go_wp2_with fail
  refine (HC.out _).mono ?_
  rintro e w1 ⟨rfl, he1⟩
  have hb1 := hb.ext he1
  have he := hx.trans he1
  have c0 := hb1.cell 0
  have c1 := hb1.cell 1
  have c2 := hb1.cell 2
  simp only [List.getElem?_toArray, List.getElem?_cons_zero, List.getElem?_cons_succ] at c0 c1 c2
  clear hx hb he1
  have hws := he.hsize
  have hx2 : Ext w1 ((w1.alloc (.cells #[.slice A n c, .int .i64 k, .int .i64 q, .bool op] 99)).alloc (.cells #[.int .i64 0, .bool false] 101)) := (Ext.alloc _ _).to_alloc _
  have d0 := hx2.cell c0
  have d2 := hx2.cell c2
  have hb3 := (Blk.new w1 99 #[.slice A n c, .int .i64 k, .int .i64 q, .bool op]).ext (Ext.alloc _ (.cells #[.int .i64 0, .bool false] 101))
  have hb4 : Blk ((w1.alloc (.cells #[.slice A n c, .int .i64 k, .int .i64 q, .bool op] 99)).alloc (.cells #[.int .i64 0, .bool false] 101)) (w1.heap.size + 1) 101 #[.int .i64 0, .bool false] := by
    simpa using Blk.new (w1.alloc (.cells #[.slice A n c, .int .i64 k, .int .i64 q, .bool op] 99)) 101 #[.int .i64 0, .bool false]
  go_wp2_with fail
  refine (HK.out _).mono ?_
  rintro e w2 ⟨rfl, rfl⟩
  go_wp2_with fail
  refine (HP.out _ (he.trans hx2)).mono ?_
  rintro e w3 ⟨⟨o, hR, hO⟩, he3⟩
  have HR := Lib.hid hR
  clear hR
  have hq := hb4.ext he3
  have f0 := hq.frozen 0
  have f1 := hq.frozen 1
  have c4 := hq.cell 0
  have c5 := hq.cell 1
  simp only [List.getElem?_toArray, List.getElem?_cons_zero, List.getElem?_cons_succ] at c4 c5
  clear HP hb4 hb3 c0 c1 c2 d0 d2 hb1
  rcases o with _ | ⟨m, i⟩
  · rw [outP_none] at hO
    subst hO
    go_wp2_with fail
    have hbf : Blk ((w3.setCell ⟨w1.heap.size + 1, 0, none⟩ (.int .i64 0)).setCell ⟨w1.heap.size + 1, 1, none⟩ (.bool false)) (w1.heap.size + 1) 101 #[.int .i64 0, .bool false] := by
      simpa using (hq.set_ 0 (.int .i64 0)).set_ 1 (.bool false)
    have hef := ((he.trans (hx2.trans he3)).setCell (p := ⟨w1.heap.size + 1, 0, none⟩) (Nat.le_succ_of_le hws) (.int .i64 0)).setCell (p := ⟨w1.heap.size + 1, 1, none⟩) (Nat.le_succ_of_le hws) (.bool false)
    clear c4 c5 f0 f1 hq
    revert hbf hef
    generalize (w3.setCell ⟨w1.heap.size + 1, 0, none⟩ (.int .i64 0)).setCell ⟨w1.heap.size + 1, 1, none⟩ (.bool false) = w4
    intro hbf hef
    have c6 := hbf.cell 0
    have c7 := hbf.cell 1
    simp only [List.getElem?_toArray, List.getElem?_cons_zero, List.getElem?_cons_succ] at c6 c7
    clear hbf
    go_quiet (fail)
    go_wp2_with fail
    go_ret3
    exact ⟨⟨_, HR.out, rfl⟩, hef.to_drewN _⟩
  · rw [outP_some] at hO
    subst hO
    go_wp2_with fail
    have hbf : Blk ((w3.setCell ⟨w1.heap.size + 1, 0, none⟩ (.int .i64 (m : Int))).setCell ⟨w1.heap.size + 1, 1, none⟩ (.bool i)) (w1.heap.size + 1) 101 #[.int .i64 (m : Int), .bool i] := by
      simpa using (hq.set_ 0 (.int .i64 (m : Int))).set_ 1 (.bool i)
    have hef := ((he.trans (hx2.trans he3)).setCell (p := ⟨w1.heap.size + 1, 0, none⟩) (Nat.le_succ_of_le hws) (.int .i64 (m : Int))).setCell (p := ⟨w1.heap.size + 1, 1, none⟩) (Nat.le_succ_of_le hws) (.bool i)
    clear c4 c5 f0 f1 hq
    revert hbf hef
    generalize (w3.setCell ⟨w1.heap.size + 1, 0, none⟩ (.int .i64 (m : Int))).setCell ⟨w1.heap.size + 1, 1, none⟩ (.bool i) = w4
    intro hbf hef
    have c6 := hbf.cell 0
    have c7 := hbf.cell 1
    simp only [List.getElem?_toArray, List.getElem?_cons_zero, List.getElem?_cons_succ] at c6 c7
    clear hbf
    go_quiet (fail)
    go_wp2_with fail
    go_ret3
    exact ⟨⟨_, HR.out, rfl⟩, hef.to_drewN _⟩

set_option maxRecDepth 20000 in
set_option maxHeartbeats 4000000 in
theorem mgo_found0 {A : Option Addr} {n c : Nat} {k : Nat} {key arg : Int}  {op : Bool} {R : Option (Nat × Bool) → Prop} {w : World}
    (HC : Hid (∀ w : World, Calls Try.prog 50 #[.slice A n c, .int .i64 k, .agg #[.int .i64 key, .int .i64 0, .int .i64 arg]] w fun e w' => e = .returned (.int .i64 0) ∧ Ext w w'))
    (HK : Hid (∀ w : World, Calls Try.prog 51 #[.int .i64 key] w fun e w' => e = .returned (.tuple #[.bool true, .bool true]) ∧ w = w'))
    (HP : Hid (∀ w1 : World, Ext w w1 → Calls Try.prog 52 #[.agg #[.slice A n c, .int .i64 k, .int .i64 1, .bool op], .int .i64 key, .int .i64 arg] w1 fun e w' => (∃ o, R o ∧ e = outP o) ∧ Ext w1 w')) :
    Calls Try.prog 37 #[.slice A n c, .int .i64 k, .agg #[.int .i64 key, .int .i64 0, .int .i64 arg], .bool op] w fun e w' => (∃ o, R o ∧ e = outG o) ∧ Ext w w' := by
  have hx := Ext.alloc w (.cells #[.int .i64 key, .int .i64 0, .int .i64 arg] 80)
  have hb := Blk.new w 80 #[.int .i64 key, .int .i64 0, .int .i64 arg]
  go_enter Try.func37, Try.ntmps37
  go_wp2_with fail
  refine (HC.out _).mono ?_
  rintro e w1 ⟨rfl, he1⟩
  have hb1 := hb.ext he1
  have he := hx.trans he1
  have c0 := hb1.cell 0
  have c1 := hb1.cell 1
  have c2 := hb1.cell 2
  simp only [List.getElem?_toArray, List.getElem?_cons_zero, List.getElem?_cons_succ] at c0 c1 c2
  clear hx hb he1
  have hws := he.hsize
  have hx2 : Ext w1 ((w1.alloc (.cells #[.slice A n c, .int .i64 k, .int .i64 1, .bool op] 99)).alloc (.cells #[.int .i64 0, .bool false] 101)) := (Ext.alloc _ _).to_alloc _
  have d0 := hx2.cell c0
  have d2 := hx2.cell c2
  have hb3 := (Blk.new w1 99 #[.slice A n c, .int .i64 k, .int .i64 1, .bool op]).ext (Ext.alloc _ (.cells #[.int .i64 0, .bool false] 101))
  have hb4 : Blk ((w1.alloc (.cells #[.slice A n c, .int .i64 k, .int .i64 1, .bool op] 99)).alloc (.cells #[.int .i64 0, .bool false] 101)) (w1.heap.size + 1) 101 #[.int .i64 0, .bool false] := by
    simpa using Blk.new (w1.alloc (.cells #[.slice A n c, .int .i64 k, .int .i64 1, .bool op] 99)) 101 #[.int .i64 0, .bool false]
  go_wp2_with fail
  refine (HK.out _).mono ?_
  rintro e w2 ⟨rfl, rfl⟩
  go_wp2_with fail
  refine (HP.out _ (he.trans hx2)).mono ?_
  rintro e w3 ⟨⟨o, hR, hO⟩, he3⟩
  have HR := Lib.hid hR
  clear hR
  have hq := hb4.ext he3
  have f0 := hq.frozen 0
  have f1 := hq.frozen 1
  have c4 := hq.cell 0
  have c5 := hq.cell 1
  simp only [List.getElem?_toArray, List.getElem?_cons_zero, List.getElem?_cons_succ] at c4 c5
  clear HP hb4 hb3 c0 c1 c2 d0 d2 hb1
  rcases o with _ | ⟨m, i⟩
  · rw [outP_none] at hO
    subst hO
    go_wp2_with fail
    have hbf : Blk ((w3.setCell ⟨w1.heap.size + 1, 0, none⟩ (.int .i64 0)).setCell ⟨w1.heap.size + 1, 1, none⟩ (.bool false)) (w1.heap.size + 1) 101 #[.int .i64 0, .bool false] := by
      simpa using (hq.set_ 0 (.int .i64 0)).set_ 1 (.bool false)
    have hef := ((he.trans (hx2.trans he3)).setCell (p := ⟨w1.heap.size + 1, 0, none⟩) (Nat.le_succ_of_le hws) (.int .i64 0)).setCell (p := ⟨w1.heap.size + 1, 1, none⟩) (Nat.le_succ_of_le hws) (.bool false)
    clear c4 c5 f0 f1 hq
    revert hbf hef
    generalize (w3.setCell ⟨w1.heap.size + 1, 0, none⟩ (.int .i64 0)).setCell ⟨w1.heap.size + 1, 1, none⟩ (.bool false) = w4
    intro hbf hef
    have c6 := hbf.cell 0
    have c7 := hbf.cell 1
    simp only [List.getElem?_toArray, List.getElem?_cons_zero, List.getElem?_cons_succ] at c6 c7
    clear hbf
    go_quiet (fail)
    go_wp2_with fail
    go_ret3
    exact ⟨⟨_, HR.out, rfl⟩, hef.to_drewN _⟩
  · rw [outP_some] at hO
    subst hO
    go_wp2_with fail
    have hbf : Blk ((w3.setCell ⟨w1.heap.size + 1, 0, none⟩ (.int .i64 (m : Int))).setCell ⟨w1.heap.size + 1, 1, none⟩ (.bool i)) (w1.heap.size + 1) 101 #[.int .i64 (m : Int), .bool i] := by
      simpa using (hq.set_ 0 (.int .i64 (m : Int))).set_ 1 (.bool i)
    have hef := ((he.trans (hx2.trans he3)).setCell (p := ⟨w1.heap.size + 1, 0, none⟩) (Nat.le_succ_of_le hws) (.int .i64 (m : Int))).setCell (p := ⟨w1.heap.size + 1, 1, none⟩) (Nat.le_succ_of_le hws) (.bool i)
    clear c4 c5 f0 f1 hq
    revert hbf hef
    generalize (w3.setCell ⟨w1.heap.size + 1, 0, none⟩ (.int .i64 (m : Int))).setCell ⟨w1.heap.size + 1, 1, none⟩ (.bool i) = w4
    intro hbf hef
    have c6 := hbf.cell 0
    have c7 := hbf.cell 1
    simp only [List.getElem?_toArray, List.getElem?_cons_zero, List.getElem?_cons_succ] at c6 c7
    clear hbf
    go_quiet (fail)
    go_wp2_with fail
    go_ret3
    exact ⟨⟨_, HR.out, rfl⟩, hef.to_drewN _⟩

set_option maxRecDepth 20000 in
set_option maxHeartbeats 4000000 in
theorem mgo_found1 {A : Option Addr} {n c : Nat} {k : Nat} {key arg : Int}  {op : Bool} {R : Option (Nat × Bool) → Prop} {w : World}
    (HC : Hid (∀ w : World, Calls Try.prog 50 #[.slice A n c, .int .i64 k, .agg #[.int .i64 key, .int .i64 1, .int .i64 arg]] w fun e w' => e = .returned (.int .i64 0) ∧ Ext w w'))
    (HK : Hid (∀ w : World, Calls Try.prog 51 #[.int .i64 key] w fun e w' => e = .returned (.tuple #[.bool true, .bool true]) ∧ w = w'))
    (HP : Hid (∀ w1 : World, Ext w w1 → Calls Try.prog 52 #[.agg #[.slice A n c, .int .i64 k, .int .i64 1, .bool op], .int .i64 key, .int .i64 arg] w1 fun e w' => (∃ o, R o ∧ e = outP o) ∧ Ext w1 w')) :
    Calls Try.prog 37 #[.slice A n c, .int .i64 k, .agg #[.int .i64 key, .int .i64 1, .int .i64 arg], .bool op] w fun e w' => (∃ o, R o ∧ e = outG o) ∧ Ext w w' := by
  have hx := Ext.alloc w (.cells #[.int .i64 key, .int .i64 1, .int .i64 arg] 80)
  have hb := Blk.new w 80 #[.int .i64 key, .int .i64 1, .int .i64 arg]
  go_enter Try.func37, Try.ntmps37
  go_wp2_with fail
  refine (HC.out _).mono ?_
  rintro e w1 ⟨rfl, he1⟩
  have hb1 := hb.ext he1
  have he := hx.trans he1
  have c0 := hb1.cell 0
  have c1 := hb1.cell 1
  have c2 := hb1.cell 2
  simp only [List.getElem?_toArray, List.getElem?_cons_zero, List.getElem?_cons_succ] at c0 c1 c2
  clear hx hb he1
  have hws := he.hsize
  have hx2 : Ext w1 ((w1.alloc (.cells #[.slice A n c, .int .i64 k, .int .i64 1, .bool op] 99)).alloc (.cells #[.int .i64 0, .bool false] 101)) := (Ext.alloc _ _).to_alloc _
  have d0 := hx2.cell c0
  have d2 := hx2.cell c2
  have hb3 := (Blk.new w1 99 #[.slice A n c, .int .i64 k, .int .i64 1, .bool op]).ext (Ext.alloc _ (.cells #[.int .i64 0, .bool false] 101))
  have hb4 : Blk ((w1.alloc (.cells #[.slice A n c, .int .i64 k, .int .i64 1, .bool op] 99)).alloc (.cells #[.int .i64 0, .bool false] 101)) (w1.heap.size + 1) 101 #[.int .i64 0, .bool false] := by
    simpa using Blk.new (w1.alloc (.cells #[.slice A n c, .int .i64 k, .int .i64 1, .bool op] 99)) 101 #[.int .i64 0, .bool false]
  go_wp2_with fail
  refine (HK.out _).mono ?_
  rintro e w2 ⟨rfl, rfl⟩
  go_wp2_with fail
  refine (HP.out _ (he.trans hx2)).mono ?_
  rintro e w3 ⟨⟨o, hR, hO⟩, he3⟩
  have HR := Lib.hid hR
  clear hR
  have hq := hb4.ext he3
  have f0 := hq.frozen 0
  have f1 := hq.frozen 1
  have c4 := hq.cell 0
  have c5 := hq.cell 1
  simp only [List.getElem?_toArray, List.getElem?_cons_zero, List.getElem?_cons_succ] at c4 c5
  clear HP hb4 hb3 c0 c1 c2 d0 d2 hb1
  rcases o with _ | ⟨m, i⟩
  · rw [outP_none] at hO
    subst hO
    go_wp2_with fail
    have hbf : Blk ((w3.setCell ⟨w1.heap.size + 1, 0, none⟩ (.int .i64 0)).setCell ⟨w1.heap.size + 1, 1, none⟩ (.bool false)) (w1.heap.size + 1) 101 #[.int .i64 0, .bool false] := by
      simpa using (hq.set_ 0 (.int .i64 0)).set_ 1 (.bool false)
    have hef := ((he.trans (hx2.trans he3)).setCell (p := ⟨w1.heap.size + 1, 0, none⟩) (Nat.le_succ_of_le hws) (.int .i64 0)).setCell (p := ⟨w1.heap.size + 1, 1, none⟩) (Nat.le_succ_of_le hws) (.bool false)
    clear c4 c5 f0 f1 hq
    revert hbf hef
    generalize (w3.setCell ⟨w1.heap.size + 1, 0, none⟩ (.int .i64 0)).setCell ⟨w1.heap.size + 1, 1, none⟩ (.bool false) = w4
    intro hbf hef
    have c6 := hbf.cell 0
    have c7 := hbf.cell 1
    simp only [List.getElem?_toArray, List.getElem?_cons_zero, List.getElem?_cons_succ] at c6 c7
    clear hbf
    go_quiet (fail)
    go_wp2_with fail
    go_ret3
    exact ⟨⟨_, HR.out, rfl⟩, hef.to_drewN _⟩
  · rw [outP_some] at hO
    subst hO
    go_wp2_with fail
    have hbf : Blk ((w3.setCell ⟨w1.heap.size + 1, 0, none⟩ (.int .i64 (m : Int))).setCell ⟨w1.heap.size + 1, 1, none⟩ (.bool i)) (w1.heap.size + 1) 101 #[.int .i64 (m : Int), .bool i] := by
      simpa using (hq.set_ 0 (.int .i64 (m : Int))).set_ 1 (.bool i)
    have hef := ((he.trans (hx2.trans he3)).setCell (p := ⟨w1.heap.size + 1, 0, none⟩) (Nat.le_succ_of_le hws) (.int .i64 (m : Int))).setCell (p := ⟨w1.heap.size + 1, 1, none⟩) (Nat.le_succ_of_le hws) (.bool i)
    clear c4 c5 f0 f1 hq
    revert hbf hef
    generalize (w3.setCell ⟨w1.heap.size + 1, 0, none⟩ (.int .i64 (m : Int))).setCell ⟨w1.heap.size + 1, 1, none⟩ (.bool i) = w4
    intro hbf hef
    have c6 := hbf.cell 0
    have c7 := hbf.cell 1
    simp only [List.getElem?_toArray, List.getElem?_cons_zero, List.getElem?_cons_succ] at c6 c7
    clear hbf
    go_quiet (fail)
    go_wp2_with fail
    go_ret3
    exact ⟨⟨_, HR.out, rfl⟩, hef.to_drewN _⟩

set_option maxRecDepth 20000 in
set_option maxHeartbeats 4000000 in
theorem mgo_foundq {A : Option Addr} {n c : Nat} {k : Nat} {key arg : Int} {q : Nat} (hq2 : 2 ≤ q) {op : Bool} {R : Option (Nat × Bool) → Prop} {w : World}
    (HC : Hid (∀ w : World, Calls Try.prog 50 #[.slice A n c, .int .i64 k, .agg #[.int .i64 key, .int .i64 q, .int .i64 arg]] w fun e w' => e = .returned (.int .i64 0) ∧ Ext w w'))
    (HK : Hid (∀ w : World, Calls Try.prog 51 #[.int .i64 key] w fun e w' => e = .returned (.tuple #[.bool true, .bool true]) ∧ w = w'))
    (HP : Hid (∀ w1 : World, Ext w w1 → Calls Try.prog 52 #[.agg #[.slice A n c, .int .i64 k, .int .i64 q, .bool op], .int .i64 key, .int .i64 arg] w1 fun e w' => (∃ o, R o ∧ e = outP o) ∧ Ext w1 w')) :
    Calls Try.prog 37 #[.slice A n c, .int .i64 k, .agg #[.int .i64 key, .int .i64 q, .int .i64 arg], .bool op] w fun e w' => (∃ o, R o ∧ e = outG o) ∧ Ext w w' := by
  have hx := Ext.alloc w (.cells #[.int .i64 key, .int .i64 q, .int .i64 arg] 80)
  have hb := Blk.new w 80 #[.int .i64 key, .int .i64 q, .int .i64 arg]
  go_enter Try.func37, Try.ntmps37
  go_wp2_with fail
  refine (HC.out _).mono ?_
  rintro e w1 ⟨rfl, he1⟩
  have hb1 := hb.ext he1
  have he := hx.trans he1
  have c0 := hb1.cell 0
  have c1 := hb1.cell 1
  have c2 := hb1.cell 2
  simp only [List.getElem?_toArray, List.getElem?_cons_zero, List.getElem?_cons_succ] at c0 c1 c2
  clear hx hb he1
  have hws := he.hsize
  have hx2 : Ext w1 ((w1.alloc (.cells #[.slice A n c, .int .i64 k, .int .i64 q, .bool op] 99)).alloc (.cells #[.int .i64 0, .bool false] 101)) := (Ext.alloc _ _).to_alloc _
  have d0 := hx2.cell c0
  have d2 := hx2.cell c2
  have hb3 := (Blk.new w1 99 #[.slice A n c, .int .i64 k, .int .i64 q, .bool op]).ext (Ext.alloc _ (.cells #[.int .i64 0, .bool false] 101))
  have hb4 : Blk ((w1.alloc (.cells #[.slice A n c, .int .i64 k, .int .i64 q, .bool op] 99)).alloc (.cells #[.int .i64 0, .bool false] 101)) (w1.heap.size + 1) 101 #[.int .i64 0, .bool false] := by
    simpa using Blk.new (w1.alloc (.cells #[.slice A n c, .int .i64 k, .int .i64 q, .bool op] 99)) 101 #[.int .i64 0, .bool false]
  go_wp2_with fail
  refine (HK.out _).mono ?_
  rintro e w2 ⟨rfl, rfl⟩
  go_wp2_with fail
  refine (HP.out _ (he.trans hx2)).mono ?_
  rintro e w3 ⟨⟨o, hR, hO⟩, he3⟩
  have HR := Lib.hid hR
  clear hR
  have hq := hb4.ext he3
  have f0 := hq.frozen 0
  have f1 := hq.frozen 1
  have c4 := hq.cell 0
  have c5 := hq.cell 1
  simp only [List.getElem?_toArray, List.getElem?_cons_zero, List.getElem?_cons_succ] at c4 c5
  clear HP hb4 hb3 c0 c1 c2 d0 d2 hb1
  rcases o with _ | ⟨m, i⟩
  · rw [outP_none] at hO
    subst hO
    go_wp2_with fail
    have hbf : Blk ((w3.setCell ⟨w1.heap.size + 1, 0, none⟩ (.int .i64 0)).setCell ⟨w1.heap.size + 1, 1, none⟩ (.bool false)) (w1.heap.size + 1) 101 #[.int .i64 0, .bool false] := by
      simpa using (hq.set_ 0 (.int .i64 0)).set_ 1 (.bool false)
    have hef := ((he.trans (hx2.trans he3)).setCell (p := ⟨w1.heap.size + 1, 0, none⟩) (Nat.le_succ_of_le hws) (.int .i64 0)).setCell (p := ⟨w1.heap.size + 1, 1, none⟩) (Nat.le_succ_of_le hws) (.bool false)
    clear c4 c5 f0 f1 hq
    revert hbf hef
    generalize (w3.setCell ⟨w1.heap.size + 1, 0, none⟩ (.int .i64 0)).setCell ⟨w1.heap.size + 1, 1, none⟩ (.bool false) = w4
    intro hbf hef
    have c6 := hbf.cell 0
    have c7 := hbf.cell 1
    simp only [List.getElem?_toArray, List.getElem?_cons_zero, List.getElem?_cons_succ] at c6 c7
    clear hbf
    go_quiet (fail)
    go_wp2_with fail
    go_ret3
    exact ⟨⟨_, HR.out, rfl⟩, hef.to_drewN _⟩
  · rw [outP_some] at hO
    subst hO
    go_wp2_with fail
    have hbf : Blk ((w3.setCell ⟨w1.heap.size + 1, 0, none⟩ (.int .i64 (m : Int))).setCell ⟨w1.heap.size + 1, 1, none⟩ (.bool i)) (w1.heap.size + 1) 101 #[.int .i64 (m : Int), .bool i] := by
      simpa using (hq.set_ 0 (.int .i64 (m : Int))).set_ 1 (.bool i)
    have hef := ((he.trans (hx2.trans he3)).setCell (p := ⟨w1.heap.size + 1, 0, none⟩) (Nat.le_succ_of_le hws) (.int .i64 (m : Int))).setCell (p := ⟨w1.heap.size + 1, 1, none⟩) (Nat.le_succ_of_le hws) (.bool i)
    clear c4 c5 f0 f1 hq
    revert hbf hef
    generalize (w3.setCell ⟨w1.heap.size + 1, 0, none⟩ (.int .i64 (m : Int))).setCell ⟨w1.heap.size + 1, 1, none⟩ (.bool i) = w4
    intro hbf hef
    have c6 := hbf.cell 0
    have c7 := hbf.cell 1
    simp only [List.getElem?_toArray, List.getElem?_cons_zero, List.getElem?_cons_succ] at c6 c7
    clear hbf
    go_quiet (fail)
    go_wp2_with fail
    go_ret3
    exact ⟨⟨_, HR.out, rfl⟩, hef.to_drewN _⟩

end Go.Proofs.Ytmhgndjmcignjaa

namespace Go.Proofs.Ytmhgndjmcignjaa
open Go.RowKit
set_option linter.unusedVariables false
set_option linter.unusedSimpArgs false

/-- What Go answers. -/
def goPost (l : List Int) (n : Nat) (k key cnt arg : Int) (op : Bool) (e : Ending) : Prop :=
  (okM n k key cnt ∧ ∃ o, goR l k.toNat key arg (max 1 cnt).toNat op o ∧ e = outG o) ∨ (¬ okM n k key cnt ∧ ∃ er : Int, (er != 0) = true ∧ e = .returned (.tuple #[.int .i64 0, .bool false, .int .i64 er]))

theorem isFind_plain {key : Int} (h : isFind key = false) (h2 : (isPlain key || isFind key) = true) : isPlain key = true := by
  rw [h] at h2; simpa using h2

theorem mcheck_det {A : Option Addr} {n c : Nat} {k key cnt arg : Int} (hnc : n ≤ c) (hcm : c ≤ maxLen) :
    (okM n k key cnt ∧ ∀ w : World, Calls Try.prog 50 #[.slice A n c, .int .i64 k, .agg #[.int .i64 key, .int .i64 cnt, .int .i64 arg]] w fun e w' => e = .returned (.int .i64 0) ∧ Ext w w') ∨
    (¬ okM n k key cnt ∧ ∀ w : World, Calls Try.prog 50 #[.slice A n c, .int .i64 k, .agg #[.int .i64 key, .int .i64 cnt, .int .i64 arg]] w fun e w' => (∃ er : Int, (er != 0) = true ∧ e = .returned (.int .i64 er)) ∧ Ext w w') := by
  by_cases h : okM n k key cnt
  · refine .inl ⟨h, fun w => (mcheck_all hnc hcm).mono ?_⟩
    rintro e w' ⟨⟨er, rfl, ⟨rfl, _⟩ | ⟨_, h2⟩⟩, h3⟩
    · exact ⟨rfl, h3⟩
    · exact absurd h h2
  · refine .inr ⟨h, fun w => (mcheck_all hnc hcm).mono ?_⟩
    rintro e w' ⟨⟨er, rfl, ⟨_, h2⟩ | ⟨h1, _⟩⟩, h3⟩
    · exact absurd h2 h
    · exact ⟨⟨er, h1, rfl⟩, h3⟩

set_option maxRecDepth 20000 in
set_option maxHeartbeats 2000000 in
theorem mgo_bad' {A : Option Addr} {n c : Nat} {k key cnt arg : Int} {op : Bool} {w : World} (hC : Hid (∀ w : World, Calls Try.prog 50 #[.slice A n c, .int .i64 k, .agg #[.int .i64 key, .int .i64 cnt, .int .i64 arg]] w fun e w' => (∃ er : Int, (er != 0) = true ∧ e = .returned (.int .i64 er)) ∧ Ext w w')) :
    Calls Try.prog 37 #[.slice A n c, .int .i64 k, .agg #[.int .i64 key, .int .i64 cnt, .int .i64 arg], .bool op] w fun e w' => (∃ er : Int, (er != 0) = true ∧ e = .returned (.tuple #[.int .i64 0, .bool false, .int .i64 er])) ∧ Ext w w' := by
  go_enter Try.func37, Try.ntmps37
  go_wp2_with fail
  refine (hC.out _).mono ?_
  rintro e w1 ⟨⟨er, her, rfl⟩, he1⟩
  go_wp2_with fail
  go_ret3
  exact ⟨⟨er, her, rfl⟩, (Ext.alloc _ _).trans he1⟩

theorem mgo_all {l : List Int} {A : Option Addr} {n c : Nat} {k key cnt arg : Int} {op : Bool} {w : World} (hl : Ints w A n c l) (wl : ∀ x ∈ l, (Lit.int .i64 x).wf = true) :
    Calls Try.prog 37 #[.slice A n c, .int .i64 k, .agg #[.int .i64 key, .int .i64 cnt, .int .i64 arg], .bool op] w fun e w' => goPost l n k key cnt arg op e ∧ Ext w w' := by
  have hnc := hl.ncap
  have hcm := hl.nmax
  rcases mcheck_det (A := A) (n := n) (c := c) (k := k) (key := key) (cnt := cnt) (arg := arg) hnc hcm with ⟨hok, hC⟩ | ⟨hok, hC⟩
  · have hok' := hok
    obtain ⟨hn, hk0, hk1, hc0, hc1, hkey⟩ := hok
    obtain ⟨kn, rfl⟩ := Int.eq_ofNat_of_zero_le hk0
    obtain ⟨q, rfl⟩ := Int.eq_ofNat_of_zero_le hc0
    have hkn : kn ≤ n := by omega
    have hK := known_all key
    rw [hkey] at hK
    have hfin : ∀ {g : Nat} (hg : (max 1 (q : Int)).toNat = g), Calls Try.prog 37 #[.slice A n c, .int .i64 kn, .agg #[.int .i64 key, .int .i64 q, .int .i64 arg], .bool op] w (fun e w' => (∃ o, goR l kn key arg g op o ∧ e = outG o) ∧ Ext w w') →
        Calls Try.prog 37 #[.slice A n c, .int .i64 kn, .agg #[.int .i64 key, .int .i64 q, .int .i64 arg], .bool op] w fun e w' => goPost l n kn key q arg op e ∧ Ext w w' := by
      intro g hg h
      refine h.mono ?_
      rintro e w' ⟨h1, h2⟩
      exact ⟨.inl ⟨hok', by rw [hg]; exact h1⟩, h2⟩
    rcases hf : isFind key with _ | _
    · rw [hf] at hK
      have hp := isFind_plain hf hkey
      have HP : ∀ g : Nat, 1 ≤ g → g ≤ 4096 → ∀ w1 : World, Ext w w1 → Calls Try.prog 53 #[.agg #[.slice A n c, .int .i64 kn, .int .i64 g, .bool op], .int .i64 key] w1 fun e w' => (∃ o, goR l kn key arg g op o ∧ e = outP o) ∧ Ext w1 w' := by
        intro g h1 h2 w1 he
        refine (plain_all (hl.ext he) wl hn hkn h1 h2 hp).mono ?_
        rintro e w' ⟨⟨o, ho, rfl⟩, h4⟩
        exact ⟨⟨o, by unfold goR; rw [hf]; simpa using ho, rfl⟩, h4⟩
      rcases q with _ | _ | q
      · exact hfin (g := 1) (by omega) (mgo_plain0 (Lib.hid hC) (Lib.hid hK) (Lib.hid (HP 1 (by omega) (by omega))))
      · exact hfin (g := 1) (by omega) (mgo_plain1 (Lib.hid hC) (Lib.hid hK) (Lib.hid (HP 1 (by omega) (by omega))))
      · exact hfin (g := q + 2) (by omega) (mgo_plainq (q := q + 2) (by omega) (Lib.hid hC) (Lib.hid hK) (Lib.hid (HP (q + 2) (by omega) (by omega))))
    · rw [hf] at hK
      have HP : ∀ g : Nat, 1 ≤ g → g ≤ 4096 → ∀ w1 : World, Ext w w1 → Calls Try.prog 52 #[.agg #[.slice A n c, .int .i64 kn, .int .i64 g, .bool op], .int .i64 key, .int .i64 arg] w1 fun e w' => (∃ o, goR l kn key arg g op o ∧ e = outP o) ∧ Ext w1 w' := by
        intro g h1 h2 w1 he
        refine (found_all (hl.ext he) hn hkn h1 h2 hf).mono ?_
        rintro e w' ⟨⟨o, ho, rfl⟩, h4⟩
        exact ⟨⟨o, by unfold goR; rw [hf]; simpa using ho, rfl⟩, h4⟩
      rcases q with _ | _ | q
      · exact hfin (g := 1) (by omega) (mgo_found0 (Lib.hid hC) (Lib.hid hK) (Lib.hid (HP 1 (by omega) (by omega))))
      · exact hfin (g := 1) (by omega) (mgo_found1 (Lib.hid hC) (Lib.hid hK) (Lib.hid (HP 1 (by omega) (by omega))))
      · exact hfin (g := q + 2) (by omega) (mgo_foundq (q := q + 2) (by omega) (Lib.hid hC) (Lib.hid hK) (Lib.hid (HP (q + 2) (by omega) (by omega))))
  · refine (mgo_bad' (Lib.hid hC)).mono ?_
    rintro e w' ⟨h1, h2⟩
    exact ⟨.inr ⟨hok, h1⟩, h2⟩

/-- What Range answers: the place and where the motion leads, in order. -/
def rangePost (l : List Int) (n : Nat) (k key cnt arg : Int) (e : Ending) : Prop :=
  (∃ er : Int, (er != 0) = true ∧ e = .returned (.tuple #[.int .i64 0, .int .i64 0, .int .i64 er]) ∧ (okM n k key cnt → goR l k.toNat key arg (max 1 cnt).toNat true none)) ∨
  (okM n k key cnt ∧ ∃ (a : Nat) (i : Bool), goR l k.toNat key arg (max 1 cnt).toNat true (some (a, i)) ∧ a ≤ n ∧ (i = true → a < n) ∧
    ∃ lo hi : Int, lo = min k a ∧ hi = max k a + (if i = true then 1 else 0) ∧ e = .returned (.tuple #[.int .i64 lo, .int .i64 hi, .int .i64 0]))

set_option maxRecDepth 20000 in
set_option maxHeartbeats 2000000 in
theorem mrange_ok {l : List Int} {A : Option Addr} {n c : Nat} {k key cnt arg : Int} {w : World} (hl : Ints w A n c l) (wl : ∀ x ∈ l, (Lit.int .i64 x).wf = true) :
    Calls Try.prog 38 #[.slice A n c, .int .i64 k, .agg #[.int .i64 key, .int .i64 cnt, .int .i64 arg]] w fun e w' => rangePost l n k key cnt arg e ∧ Ext w w' := by
  have hlen := Lib.hid hl.len
  have hx := Ext.alloc w (.cells #[.int .i64 key, .int .i64 cnt, .int .i64 arg] 80)
  have HG := Lib.hid (mgo_all (k := k) (key := key) (cnt := cnt) (arg := arg) (op := true) (hl.ext hx) wl)
  clear wl hl
  go_enter Try.func38, Try.ntmps38
  go_wp2_with fail
  refine HG.out.mono ?_
  rintro e w1 ⟨⟨hok, o, hR, he⟩ | ⟨hok, er, her, rfl⟩, he1⟩
  · have HO := Lib.hid hok
    have HR := Lib.hid hR
    clear hok hR HG
    rcases o with _ | ⟨a, i⟩
    · rw [outG_none] at he
      subst he
      go_wp2_with fail
      go_ret3
      exact ⟨.inl ⟨5, rfl, rfl, fun _ => HR.out⟩, hx.trans he1⟩
    · rw [outG_some] at he
      subst he
      have hb := goR_bd (l := l) (by have := HO.out; obtain ⟨_, h1, h2, _⟩ := this; rw [hlen.out]; omega) (by omega) HR.out rfl
      rw [hlen.out] at hb
      have HB := Lib.hid hb
      have hk : Hid (0 ≤ k ∧ (k = 0 ∨ k < n) ∧ n ≤ 4096) := Lib.hid ⟨HO.out.2.1, HO.out.2.2.1, HO.out.1⟩
      have ha := hb.1
      have hk1 := hk.out.1
      have hn := hk.out.2.2
      have hk2 : k ≤ n := by have := hk.out.2.1; omega
      clear hb
      cases i
      · go_wp2_with fail
        all_goals
          go_ret3
          exact ⟨.inr ⟨HO.out, a, false, HR.out, HB.out.1, HB.out.2.2, _, _, by omega, by simp; omega, rfl⟩, hx.trans he1⟩
      · go_wp2_with fail
        all_goals
          go_ret3
          exact ⟨.inr ⟨HO.out, a, true, HR.out, HB.out.1, fun _ => HB.out.2.2 trivial, _, _, by omega, by simp; omega, rfl⟩, hx.trans he1⟩
  · have HO := Lib.hid hok
    clear hok HG
    go_wp2_with fail
    go_ret3
    exact ⟨.inl ⟨er, her, rfl, fun h => absurd h HO.out⟩, hx.trans he1⟩

theorem min_lit : ∀ {o : Option (Nat × Bool)}, goR (chars ⟨#[97, 98]⟩) (0 : Int).toNat 36 0 (max 1 (0 : Int)).toNat true o → o = some (1, true) := by
  intro o h
  have h1 : isFind 36 = false := by decide +kernel
  unfold goR at h
  rw [h1] at h
  unfold plainR at h
  simp at h
  rw [h]
  decide +kernel
theorem lit_range {e : Ending} (h : rangePost (chars ⟨#[97, 98]⟩) 2 0 36 0 0 e) : e = .returned (.tuple #[.int .i64 0, .int .i64 2, .int .i64 0]) := by
  have hok : okM 2 0 36 0 := ⟨by omega, by omega, by omega, by omega, by omega, by decide +kernel⟩
  rcases h with ⟨er, _, _, h⟩ | ⟨_, a, i, h, _, _, lo, hi, h1, h2, h3⟩
  · have := min_lit (h hok); cases this
  · have := min_lit h
    injection this with this
    injection this with ha hi
    subst ha; subst hi
    subst h1; subst h2
    rw [h3]
    rfl
/-- What the statement asks of Range. -/
theorem range_says {l : List Int} {n : Nat} {k key cnt arg : Int} {e : Ending} (h : rangePost l n k key cnt arg e) :
    (∃ er : Int, (er != 0) = true ∧ e = .returned (.tuple #[.int .i64 0, .int .i64 0, .int .i64 er])) ∨ (∃ lo hi : Int, 0 ≤ lo ∧ lo ≤ k ∧ k ≤ hi ∧ hi ≤ n ∧ e = .returned (.tuple #[.int .i64 lo, .int .i64 hi, .int .i64 0])) := by
  rcases h with ⟨er, h1, h2, _⟩ | ⟨hok, a, i, _, ha, hi, lo, hi', h1, h2, h3⟩
  · exact .inl ⟨er, h1, h2⟩
  · obtain ⟨_, b1, b2, _⟩ := hok
    refine .inr ⟨lo, hi', by omega, by omega, ?_, ?_, h3⟩
    · rw [h2]; split <;> omega
    · rw [h2]
      split
      · have := hi ‹_›; omega
      · omega
/-- What the statement asks of Go. -/
theorem go_says {l : List Int} {n : Nat} {k key cnt arg : Int} {e : Ending} (hl : l.length = n) (h : goPost l n k key cnt arg false e) :
    (∃ (er : Int) (i : Bool), (er == 0) = false ∧ e = .returned (.tuple #[.int .i64 0, .bool i, .int .i64 er])) ∨ (∃ (a : Nat) (i : Bool), a ≤ n - 1 ∧ e = .returned (.tuple #[.int .i64 a, .bool i, .int .i64 0])) := by
  rcases h with ⟨hok, o, hR, rfl⟩ | ⟨_, er, h1, rfl⟩
  · rcases o with _ | ⟨a, i⟩
    · exact .inl ⟨5, false, rfl, rfl⟩
    · obtain ⟨_, b1, b2, _⟩ := hok
      have := goR_bd (l := l) (by rw [hl]; omega) (by omega) hR rfl
      rw [hl] at this
      exact .inr ⟨a, i, this.2.1 rfl, rfl⟩
  · exact .inl ⟨er, false, by simpa using h1, rfl⟩
end Go.Proofs.Ytmhgndjmcignjaa
