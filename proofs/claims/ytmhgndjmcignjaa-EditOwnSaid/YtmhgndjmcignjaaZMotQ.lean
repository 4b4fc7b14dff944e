/-
  The walks of package motion: found, plain, known.
-/
import Derived.Test.YtmhgndjmcignjaaZMotR

namespace Go.Proofs.Ytmhgndjmcignjaa
open Go.RowKit
set_option linter.unusedVariables false
set_option linter.unusedSimpArgs false

theorem outF_some (a : Nat) : outF (some a) = .returned (.tuple #[.int .i64 a, .int .i64 0]) := rfl
theorem outF_none : outF none = .returned (.tuple #[.int .i64 0, .int .i64 5]) := rfl

set_option maxRecDepth 20000 in
set_option maxHeartbeats 2000000 in
theorem pl_h0 {l : List Int} {A : Option Addr} {n c : Nat} {k g : Nat} {op : Bool} {w : World} (hnc : n ≤ c) (hcm : c ≤ maxLen) (hn : n ≤ 4096) (hk : k ≤ n) (hg1 : 1 ≤ g) (hg2 : g ≤ 4096) (h0 : k = 0) :
    Calls Try.prog 53 #[.agg #[.slice A n c, .int .i64 k, .int .i64 g, .bool op], .int .i64 104] w fun e w' => e = outP (none) ∧ Ext w w' := by
  unfold maxLen at hcm
  have hx0 : Ext w ((w.alloc (.cells #[.slice A n c, .int .i64 k, .int .i64 g, .bool op] 99)).alloc (.cells #[.int .i64 0, .bool false] 101)) := (Ext.alloc _ _).to_alloc _
  have hb2 := place_new w (.slice A n c) (.int .i64 k) (.int .i64 g) (.bool op)
  have hb1 := goer_new w (.slice A n c) (.int .i64 k) (.int .i64 g) (.bool op)
  have HB := Lib.hid hb2
  have HE := Lib.hid hx0
  have c0 := hb2.cell 0
  have c1 := hb2.cell 1
  have f0 := hb2.frozen 0
  have f1 := hb2.frozen 1
  have d0 := hb1.cell 0
  have d1 := hb1.cell 1
  have d2 := hb1.cell 2
  have d3 := hb1.cell 3
  simp only [List.getElem?_toArray, List.getElem?_cons_zero, List.getElem?_cons_succ] at c0 c1 d0 d1 d2 d3
  clear hb2 hb1 hx0
  go_enter Try.func53, Try.ntmps53
  go_wp2_with fail
  all_goals
    obtain ⟨c6, c7, hx, hx1, hx2⟩ := slot_facts HB.out HE.out (by simp)
    refine bodyPost_ret (by simp [results, Try.results53, go_sem, c6, c7]; try rfl) rfl ?_
    refine ⟨rfl, by first | exact hx _ _ | exact HE.out | exact hx1 _ | exact hx2 _ | exact (Ext.alloc _ _).to_alloc _⟩


set_option maxRecDepth 20000 in
set_option maxHeartbeats 2000000 in
theorem pl_h1 {l : List Int} {A : Option Addr} {n c : Nat} {k g : Nat} {op : Bool} {w : World} (hnc : n ≤ c) (hcm : c ≤ maxLen) (hn : n ≤ 4096) (hk : k ≤ n) (hg1 : 1 ≤ g) (hg2 : g ≤ 4096) (h0 : 0 < k) :
    Calls Try.prog 53 #[.agg #[.slice A n c, .int .i64 k, .int .i64 g, .bool op], .int .i64 104] w fun e w' => e = outP (some (k - g, false)) ∧ Ext w w' := by
  unfold maxLen at hcm
  have hx0 : Ext w ((w.alloc (.cells #[.slice A n c, .int .i64 k, .int .i64 g, .bool op] 99)).alloc (.cells #[.int .i64 0, .bool false] 101)) := (Ext.alloc _ _).to_alloc _
  have hb2 := place_new w (.slice A n c) (.int .i64 k) (.int .i64 g) (.bool op)
  have hb1 := goer_new w (.slice A n c) (.int .i64 k) (.int .i64 g) (.bool op)
  have HB := Lib.hid hb2
  have HE := Lib.hid hx0
  have c0 := hb2.cell 0
  have c1 := hb2.cell 1
  have f0 := hb2.frozen 0
  have f1 := hb2.frozen 1
  have d0 := hb1.cell 0
  have d1 := hb1.cell 1
  have d2 := hb1.cell 2
  have d3 := hb1.cell 3
  simp only [List.getElem?_toArray, List.getElem?_cons_zero, List.getElem?_cons_succ] at c0 c1 d0 d1 d2 d3
  clear hb2 hb1 hx0
  go_enter Try.func53, Try.ntmps53
  go_wp2_with fail
  all_goals
    obtain ⟨c6, c7, hx, hx1, hx2⟩ := slot_facts HB.out HE.out (by simp)
    refine bodyPost_ret (by simp [results, Try.results53, go_sem, c6, c7]; try rfl) rfl ?_
    refine ⟨ret_place (by omega), by first | exact hx _ _ | exact HE.out | exact hx1 _ | exact hx2 _ | exact (Ext.alloc _ _).to_alloc _⟩


set_option maxRecDepth 20000 in
set_option maxHeartbeats 2000000 in
theorem pl_0 {l : List Int} {A : Option Addr} {n c : Nat} {k g : Nat} {op : Bool} {w : World} (hnc : n ≤ c) (hcm : c ≤ maxLen) (hn : n ≤ 4096) (hk : k ≤ n) (hg1 : 1 ≤ g) (hg2 : g ≤ 4096) :
    Calls Try.prog 53 #[.agg #[.slice A n c, .int .i64 k, .int .i64 g, .bool op], .int .i64 48] w fun e w' => e = outP (some (0, false)) ∧ Ext w w' := by
  unfold maxLen at hcm
  have hx0 : Ext w ((w.alloc (.cells #[.slice A n c, .int .i64 k, .int .i64 g, .bool op] 99)).alloc (.cells #[.int .i64 0, .bool false] 101)) := (Ext.alloc _ _).to_alloc _
  have hb2 := place_new w (.slice A n c) (.int .i64 k) (.int .i64 g) (.bool op)
  have hb1 := goer_new w (.slice A n c) (.int .i64 k) (.int .i64 g) (.bool op)
  have HB := Lib.hid hb2
  have HE := Lib.hid hx0
  have c0 := hb2.cell 0
  have c1 := hb2.cell 1
  have f0 := hb2.frozen 0
  have f1 := hb2.frozen 1
  have d0 := hb1.cell 0
  have d1 := hb1.cell 1
  have d2 := hb1.cell 2
  have d3 := hb1.cell 3
  simp only [List.getElem?_toArray, List.getElem?_cons_zero, List.getElem?_cons_succ] at c0 c1 d0 d1 d2 d3
  clear hb2 hb1 hx0
  go_enter Try.func53, Try.ntmps53
  go_wp2_with fail
  all_goals
    obtain ⟨c6, c7, hx, hx1, hx2⟩ := slot_facts HB.out HE.out (by simp)
    refine bodyPost_ret (by simp [results, Try.results53, go_sem, c6, c7]; try rfl) rfl ?_
    refine ⟨rfl, by first | exact hx _ _ | exact HE.out | exact hx1 _ | exact hx2 _ | exact (Ext.alloc _ _).to_alloc _⟩


set_option maxRecDepth 20000 in
set_option maxHeartbeats 2000000 in
theorem pl_e36 {l : List Int} {A : Option Addr} {n c : Nat} {k g : Nat} {op : Bool} {w : World} (hnc : n ≤ c) (hcm : c ≤ maxLen) (hn : n ≤ 4096) (hk : k ≤ n) (hg1 : 1 ≤ g) (hg2 : g ≤ 4096) (h0 : n = 0) :
    Calls Try.prog 53 #[.agg #[.slice A n c, .int .i64 k, .int .i64 g, .bool op], .int .i64 36] w fun e w' => e = outP (none) ∧ Ext w w' := by
  unfold maxLen at hcm
  have hx0 : Ext w ((w.alloc (.cells #[.slice A n c, .int .i64 k, .int .i64 g, .bool op] 99)).alloc (.cells #[.int .i64 0, .bool false] 101)) := (Ext.alloc _ _).to_alloc _
  have hb2 := place_new w (.slice A n c) (.int .i64 k) (.int .i64 g) (.bool op)
  have hb1 := goer_new w (.slice A n c) (.int .i64 k) (.int .i64 g) (.bool op)
  have HB := Lib.hid hb2
  have HE := Lib.hid hx0
  have c0 := hb2.cell 0
  have c1 := hb2.cell 1
  have f0 := hb2.frozen 0
  have f1 := hb2.frozen 1
  have d0 := hb1.cell 0
  have d1 := hb1.cell 1
  have d2 := hb1.cell 2
  have d3 := hb1.cell 3
  simp only [List.getElem?_toArray, List.getElem?_cons_zero, List.getElem?_cons_succ] at c0 c1 d0 d1 d2 d3
  clear hb2 hb1 hx0
  go_enter Try.func53, Try.ntmps53
  go_wp2_with fail
  all_goals
    obtain ⟨c6, c7, hx, hx1, hx2⟩ := slot_facts HB.out HE.out (by simp)
    refine bodyPost_ret (by simp [results, Try.results53, go_sem, c6, c7]; try rfl) rfl ?_
    refine ⟨rfl, by first | exact hx _ _ | exact HE.out | exact hx1 _ | exact hx2 _ | exact (Ext.alloc _ _).to_alloc _⟩


set_option maxRecDepth 20000 in
set_option maxHeartbeats 2000000 in
theorem pl_36 {l : List Int} {A : Option Addr} {n c : Nat} {k g : Nat} {op : Bool} {w : World} (hnc : n ≤ c) (hcm : c ≤ maxLen) (hn : n ≤ 4096) (hk : k ≤ n) (hg1 : 1 ≤ g) (hg2 : g ≤ 4096) (h0 : 0 < n) :
    Calls Try.prog 53 #[.agg #[.slice A n c, .int .i64 k, .int .i64 g, .bool op], .int .i64 36] w fun e w' => e = outP (some (n - 1, true)) ∧ Ext w w' := by
  unfold maxLen at hcm
  have hx0 : Ext w ((w.alloc (.cells #[.slice A n c, .int .i64 k, .int .i64 g, .bool op] 99)).alloc (.cells #[.int .i64 0, .bool false] 101)) := (Ext.alloc _ _).to_alloc _
  have hb2 := place_new w (.slice A n c) (.int .i64 k) (.int .i64 g) (.bool op)
  have hb1 := goer_new w (.slice A n c) (.int .i64 k) (.int .i64 g) (.bool op)
  have HB := Lib.hid hb2
  have HE := Lib.hid hx0
  have c0 := hb2.cell 0
  have c1 := hb2.cell 1
  have f0 := hb2.frozen 0
  have f1 := hb2.frozen 1
  have d0 := hb1.cell 0
  have d1 := hb1.cell 1
  have d2 := hb1.cell 2
  have d3 := hb1.cell 3
  simp only [List.getElem?_toArray, List.getElem?_cons_zero, List.getElem?_cons_succ] at c0 c1 d0 d1 d2 d3
  clear hb2 hb1 hx0
  go_enter Try.func53, Try.ntmps53
  go_wp2_with fail
  all_goals
    obtain ⟨c6, c7, hx, hx1, hx2⟩ := slot_facts HB.out HE.out (by simp)
    refine bodyPost_ret (by simp [results, Try.results53, go_sem, c6, c7]; try rfl) rfl ?_
    refine ⟨ret_place (by omega), by first | exact hx _ _ | exact HE.out | exact hx1 _ | exact hx2 _ | exact (Ext.alloc _ _).to_alloc _⟩


set_option maxRecDepth 20000 in
set_option maxHeartbeats 2000000 in
theorem pl_e124 {l : List Int} {A : Option Addr} {n c : Nat} {k g : Nat} {op : Bool} {w : World} (hnc : n ≤ c) (hcm : c ≤ maxLen) (hn : n ≤ 4096) (hk : k ≤ n) (hg1 : 1 ≤ g) (hg2 : g ≤ 4096) (h0 : n = 0) :
    Calls Try.prog 53 #[.agg #[.slice A n c, .int .i64 k, .int .i64 g, .bool op], .int .i64 124] w fun e w' => e = outP (none) ∧ Ext w w' := by
  unfold maxLen at hcm
  have hx0 : Ext w ((w.alloc (.cells #[.slice A n c, .int .i64 k, .int .i64 g, .bool op] 99)).alloc (.cells #[.int .i64 0, .bool false] 101)) := (Ext.alloc _ _).to_alloc _
  have hb2 := place_new w (.slice A n c) (.int .i64 k) (.int .i64 g) (.bool op)
  have hb1 := goer_new w (.slice A n c) (.int .i64 k) (.int .i64 g) (.bool op)
  have HB := Lib.hid hb2
  have HE := Lib.hid hx0
  have c0 := hb2.cell 0
  have c1 := hb2.cell 1
  have f0 := hb2.frozen 0
  have f1 := hb2.frozen 1
  have d0 := hb1.cell 0
  have d1 := hb1.cell 1
  have d2 := hb1.cell 2
  have d3 := hb1.cell 3
  simp only [List.getElem?_toArray, List.getElem?_cons_zero, List.getElem?_cons_succ] at c0 c1 d0 d1 d2 d3
  clear hb2 hb1 hx0
  go_enter Try.func53, Try.ntmps53
  go_wp2_with fail
  all_goals
    obtain ⟨c6, c7, hx, hx1, hx2⟩ := slot_facts HB.out HE.out (by simp)
    refine bodyPost_ret (by simp [results, Try.results53, go_sem, c6, c7]; try rfl) rfl ?_
    refine ⟨rfl, by first | exact hx _ _ | exact HE.out | exact hx1 _ | exact hx2 _ | exact (Ext.alloc _ _).to_alloc _⟩


set_option maxRecDepth 20000 in
set_option maxHeartbeats 2000000 in
theorem pl_124 {l : List Int} {A : Option Addr} {n c : Nat} {k g : Nat} {op : Bool} {w : World} (hnc : n ≤ c) (hcm : c ≤ maxLen) (hn : n ≤ 4096) (hk : k ≤ n) (hg1 : 1 ≤ g) (hg2 : g ≤ 4096) (h0 : 0 < n) :
    Calls Try.prog 53 #[.agg #[.slice A n c, .int .i64 k, .int .i64 g, .bool op], .int .i64 124] w fun e w' => e = outP (some (min g n - 1, false)) ∧ Ext w w' := by
  unfold maxLen at hcm
  have hx0 : Ext w ((w.alloc (.cells #[.slice A n c, .int .i64 k, .int .i64 g, .bool op] 99)).alloc (.cells #[.int .i64 0, .bool false] 101)) := (Ext.alloc _ _).to_alloc _
  have hb2 := place_new w (.slice A n c) (.int .i64 k) (.int .i64 g) (.bool op)
  have hb1 := goer_new w (.slice A n c) (.int .i64 k) (.int .i64 g) (.bool op)
  have HB := Lib.hid hb2
  have HE := Lib.hid hx0
  have c0 := hb2.cell 0
  have c1 := hb2.cell 1
  have f0 := hb2.frozen 0
  have f1 := hb2.frozen 1
  have d0 := hb1.cell 0
  have d1 := hb1.cell 1
  have d2 := hb1.cell 2
  have d3 := hb1.cell 3
  simp only [List.getElem?_toArray, List.getElem?_cons_zero, List.getElem?_cons_succ] at c0 c1 d0 d1 d2 d3
  clear hb2 hb1 hx0
  go_enter Try.func53, Try.ntmps53
  go_wp2_with fail
  all_goals
    obtain ⟨c6, c7, hx, hx1, hx2⟩ := slot_facts HB.out HE.out (by simp)
    refine bodyPost_ret (by simp [results, Try.results53, go_sem, c6, c7]; try rfl) rfl ?_
    refine ⟨ret_place (by omega), by first | exact hx _ _ | exact HE.out | exact hx1 _ | exact hx2 _ | exact (Ext.alloc _ _).to_alloc _⟩


set_option maxRecDepth 20000 in
set_option maxHeartbeats 2000000 in
theorem pl_e119 {l : List Int} {A : Option Addr} {n c : Nat} {k g : Nat} {op : Bool} {w : World} (hnc : n ≤ c) (hcm : c ≤ maxLen) (hn : n ≤ 4096) (hk : k ≤ n) (hg1 : 1 ≤ g) (hg2 : g ≤ 4096) (h0 : n = 0) :
    Calls Try.prog 53 #[.agg #[.slice A n c, .int .i64 k, .int .i64 g, .bool op], .int .i64 119] w fun e w' => e = outP (none) ∧ Ext w w' := by
  unfold maxLen at hcm
  have hx0 : Ext w ((w.alloc (.cells #[.slice A n c, .int .i64 k, .int .i64 g, .bool op] 99)).alloc (.cells #[.int .i64 0, .bool false] 101)) := (Ext.alloc _ _).to_alloc _
  have hb2 := place_new w (.slice A n c) (.int .i64 k) (.int .i64 g) (.bool op)
  have hb1 := goer_new w (.slice A n c) (.int .i64 k) (.int .i64 g) (.bool op)
  have HB := Lib.hid hb2
  have HE := Lib.hid hx0
  have c0 := hb2.cell 0
  have c1 := hb2.cell 1
  have f0 := hb2.frozen 0
  have f1 := hb2.frozen 1
  have d0 := hb1.cell 0
  have d1 := hb1.cell 1
  have d2 := hb1.cell 2
  have d3 := hb1.cell 3
  simp only [List.getElem?_toArray, List.getElem?_cons_zero, List.getElem?_cons_succ] at c0 c1 d0 d1 d2 d3
  clear hb2 hb1 hx0
  go_enter Try.func53, Try.ntmps53
  go_wp2_with fail
  all_goals
    obtain ⟨c6, c7, hx, hx1, hx2⟩ := slot_facts HB.out HE.out (by simp)
    refine bodyPost_ret (by simp [results, Try.results53, go_sem, c6, c7]; try rfl) rfl ?_
    refine ⟨rfl, by first | exact hx _ _ | exact HE.out | exact hx1 _ | exact hx2 _ | exact (Ext.alloc _ _).to_alloc _⟩


set_option maxRecDepth 20000 in
set_option maxHeartbeats 2000000 in
theorem pl_e87 {l : List Int} {A : Option Addr} {n c : Nat} {k g : Nat} {op : Bool} {w : World} (hnc : n ≤ c) (hcm : c ≤ maxLen) (hn : n ≤ 4096) (hk : k ≤ n) (hg1 : 1 ≤ g) (hg2 : g ≤ 4096) (h0 : n = 0) :
    Calls Try.prog 53 #[.agg #[.slice A n c, .int .i64 k, .int .i64 g, .bool op], .int .i64 87] w fun e w' => e = outP (none) ∧ Ext w w' := by
  unfold maxLen at hcm
  have hx0 : Ext w ((w.alloc (.cells #[.slice A n c, .int .i64 k, .int .i64 g, .bool op] 99)).alloc (.cells #[.int .i64 0, .bool false] 101)) := (Ext.alloc _ _).to_alloc _
  have hb2 := place_new w (.slice A n c) (.int .i64 k) (.int .i64 g) (.bool op)
  have hb1 := goer_new w (.slice A n c) (.int .i64 k) (.int .i64 g) (.bool op)
  have HB := Lib.hid hb2
  have HE := Lib.hid hx0
  have c0 := hb2.cell 0
  have c1 := hb2.cell 1
  have f0 := hb2.frozen 0
  have f1 := hb2.frozen 1
  have d0 := hb1.cell 0
  have d1 := hb1.cell 1
  have d2 := hb1.cell 2
  have d3 := hb1.cell 3
  simp only [List.getElem?_toArray, List.getElem?_cons_zero, List.getElem?_cons_succ] at c0 c1 d0 d1 d2 d3
  clear hb2 hb1 hx0
  go_enter Try.func53, Try.ntmps53
  go_wp2_with fail
  all_goals
    obtain ⟨c6, c7, hx, hx1, hx2⟩ := slot_facts HB.out HE.out (by simp)
    refine bodyPost_ret (by simp [results, Try.results53, go_sem, c6, c7]; try rfl) rfl ?_
    refine ⟨rfl, by first | exact hx _ _ | exact HE.out | exact hx1 _ | exact hx2 _ | exact (Ext.alloc _ _).to_alloc _⟩


set_option maxRecDepth 20000 in
set_option maxHeartbeats 2000000 in
theorem pl_e101 {l : List Int} {A : Option Addr} {n c : Nat} {k g : Nat} {op : Bool} {w : World} (hnc : n ≤ c) (hcm : c ≤ maxLen) (hn : n ≤ 4096) (hk : k ≤ n) (hg1 : 1 ≤ g) (hg2 : g ≤ 4096) (h0 : n = 0) :
    Calls Try.prog 53 #[.agg #[.slice A n c, .int .i64 k, .int .i64 g, .bool op], .int .i64 101] w fun e w' => e = outP (none) ∧ Ext w w' := by
  unfold maxLen at hcm
  have hx0 : Ext w ((w.alloc (.cells #[.slice A n c, .int .i64 k, .int .i64 g, .bool op] 99)).alloc (.cells #[.int .i64 0, .bool false] 101)) := (Ext.alloc _ _).to_alloc _
  have hb2 := place_new w (.slice A n c) (.int .i64 k) (.int .i64 g) (.bool op)
  have hb1 := goer_new w (.slice A n c) (.int .i64 k) (.int .i64 g) (.bool op)
  have HB := Lib.hid hb2
  have HE := Lib.hid hx0
  have c0 := hb2.cell 0
  have c1 := hb2.cell 1
  have f0 := hb2.frozen 0
  have f1 := hb2.frozen 1
  have d0 := hb1.cell 0
  have d1 := hb1.cell 1
  have d2 := hb1.cell 2
  have d3 := hb1.cell 3
  simp only [List.getElem?_toArray, List.getElem?_cons_zero, List.getElem?_cons_succ] at c0 c1 d0 d1 d2 d3
  clear hb2 hb1 hx0
  go_enter Try.func53, Try.ntmps53
  go_wp2_with fail
  all_goals
    obtain ⟨c6, c7, hx, hx1, hx2⟩ := slot_facts HB.out HE.out (by simp)
    refine bodyPost_ret (by simp [results, Try.results53, go_sem, c6, c7]; try rfl) rfl ?_
    refine ⟨rfl, by first | exact hx _ _ | exact HE.out | exact hx1 _ | exact hx2 _ | exact (Ext.alloc _ _).to_alloc _⟩


set_option maxRecDepth 20000 in
set_option maxHeartbeats 2000000 in
theorem pl_e69 {l : List Int} {A : Option Addr} {n c : Nat} {k g : Nat} {op : Bool} {w : World} (hnc : n ≤ c) (hcm : c ≤ maxLen) (hn : n ≤ 4096) (hk : k ≤ n) (hg1 : 1 ≤ g) (hg2 : g ≤ 4096) (h0 : n = 0) :
    Calls Try.prog 53 #[.agg #[.slice A n c, .int .i64 k, .int .i64 g, .bool op], .int .i64 69] w fun e w' => e = outP (none) ∧ Ext w w' := by
  unfold maxLen at hcm
  have hx0 : Ext w ((w.alloc (.cells #[.slice A n c, .int .i64 k, .int .i64 g, .bool op] 99)).alloc (.cells #[.int .i64 0, .bool false] 101)) := (Ext.alloc _ _).to_alloc _
  have hb2 := place_new w (.slice A n c) (.int .i64 k) (.int .i64 g) (.bool op)
  have hb1 := goer_new w (.slice A n c) (.int .i64 k) (.int .i64 g) (.bool op)
  have HB := Lib.hid hb2
  have HE := Lib.hid hx0
  have c0 := hb2.cell 0
  have c1 := hb2.cell 1
  have f0 := hb2.frozen 0
  have f1 := hb2.frozen 1
  have d0 := hb1.cell 0
  have d1 := hb1.cell 1
  have d2 := hb1.cell 2
  have d3 := hb1.cell 3
  simp only [List.getElem?_toArray, List.getElem?_cons_zero, List.getElem?_cons_succ] at c0 c1 d0 d1 d2 d3
  clear hb2 hb1 hx0
  go_enter Try.func53, Try.ntmps53
  go_wp2_with fail
  all_goals
    obtain ⟨c6, c7, hx, hx1, hx2⟩ := slot_facts HB.out HE.out (by simp)
    refine bodyPost_ret (by simp [results, Try.results53, go_sem, c6, c7]; try rfl) rfl ?_
    refine ⟨rfl, by first | exact hx _ _ | exact HE.out | exact hx1 _ | exact hx2 _ | exact (Ext.alloc _ _).to_alloc _⟩


set_option maxRecDepth 20000 in
set_option maxHeartbeats 2000000 in
theorem pl_e37 {l : List Int} {A : Option Addr} {n c : Nat} {k g : Nat} {op : Bool} {w : World} (hnc : n ≤ c) (hcm : c ≤ maxLen) (hn : n ≤ 4096) (hk : k ≤ n) (hg1 : 1 ≤ g) (hg2 : g ≤ 4096) (h0 : n = 0) :
    Calls Try.prog 53 #[.agg #[.slice A n c, .int .i64 k, .int .i64 g, .bool op], .int .i64 37] w fun e w' => e = outP (none) ∧ Ext w w' := by
  unfold maxLen at hcm
  have hx0 : Ext w ((w.alloc (.cells #[.slice A n c, .int .i64 k, .int .i64 g, .bool op] 99)).alloc (.cells #[.int .i64 0, .bool false] 101)) := (Ext.alloc _ _).to_alloc _
  have hb2 := place_new w (.slice A n c) (.int .i64 k) (.int .i64 g) (.bool op)
  have hb1 := goer_new w (.slice A n c) (.int .i64 k) (.int .i64 g) (.bool op)
  have HB := Lib.hid hb2
  have HE := Lib.hid hx0
  have c0 := hb2.cell 0
  have c1 := hb2.cell 1
  have f0 := hb2.frozen 0
  have f1 := hb2.frozen 1
  have d0 := hb1.cell 0
  have d1 := hb1.cell 1
  have d2 := hb1.cell 2
  have d3 := hb1.cell 3
  simp only [List.getElem?_toArray, List.getElem?_cons_zero, List.getElem?_cons_succ] at c0 c1 d0 d1 d2 d3
  clear hb2 hb1 hx0
  go_enter Try.func53, Try.ntmps53
  go_wp2_with fail
  all_goals
    obtain ⟨c6, c7, hx, hx1, hx2⟩ := slot_facts HB.out HE.out (by simp)
    refine bodyPost_ret (by simp [results, Try.results53, go_sem, c6, c7]; try rfl) rfl ?_
    refine ⟨rfl, by first | exact hx _ _ | exact HE.out | exact hx1 _ | exact hx2 _ | exact (Ext.alloc _ _).to_alloc _⟩


set_option maxRecDepth 20000 in
set_option maxHeartbeats 2000000 in
theorem pl_94 {l : List Int} {A : Option Addr} {n c : Nat} {k g : Nat} {op : Bool} {w : World} (hnc : n ≤ c) (hcm : c ≤ maxLen) (hn : n ≤ 4096) (hk : k ≤ n) (hg1 : 1 ≤ g) (hg2 : g ≤ 4096) {X : Nat} (H : Hid (∀ w1 : World, Ext w w1 → Calls Try.prog 62 #[.agg #[.slice A n c, .int .i64 k, .int .i64 g, .bool op]] w1 fun e w' => e = .returned (.int .i64 X) ∧ Ext w1 w')) :
    Calls Try.prog 53 #[.agg #[.slice A n c, .int .i64 k, .int .i64 g, .bool op], .int .i64 94] w fun e w' => e = outP (some (X, false)) ∧ Ext w w' := by
  unfold maxLen at hcm
  have hx0 : Ext w ((w.alloc (.cells #[.slice A n c, .int .i64 k, .int .i64 g, .bool op] 99)).alloc (.cells #[.int .i64 0, .bool false] 101)) := (Ext.alloc _ _).to_alloc _
  have hb2 := place_new w (.slice A n c) (.int .i64 k) (.int .i64 g) (.bool op)
  have hb1 := goer_new w (.slice A n c) (.int .i64 k) (.int .i64 g) (.bool op)
  have d0 := hb1.cell 0
  have d1 := hb1.cell 1
  simp only [List.getElem?_toArray, List.getElem?_cons_zero, List.getElem?_cons_succ] at d0 d1
  go_enter Try.func53, Try.ntmps53
  go_wp2_with fail
  refine (H.out _ hx0).mono ?_
  rintro e w1 ⟨rfl, he1⟩
  clear d0 d1
  have hq2 := hb2.ext he1
  have hq1 := hb1.ext he1
  have HB := Lib.hid hq2
  have HE := Lib.hid (hx0.trans he1)
  have c0 := hq2.cell 0
  have c1 := hq2.cell 1
  have f0 := hq2.frozen 0
  have f1 := hq2.frozen 1
  have d0 := hq1.cell 0
  have d1 := hq1.cell 1
  have d2 := hq1.cell 2
  have d3 := hq1.cell 3
  simp only [List.getElem?_toArray, List.getElem?_cons_zero, List.getElem?_cons_succ] at c0 c1 d0 d1 d2 d3
  clear hb2 hb1 hx0 he1 hq1 hq2
  go_wp2_with fail
  all_goals
    obtain ⟨c6, c7, hx, hx1, hx2⟩ := slot_facts HB.out HE.out (by simp)
    refine bodyPost_ret (by simp [results, Try.results53, go_sem, c6, c7]; try rfl) rfl ?_
    refine ⟨rfl, by first | exact hx _ _ | exact HE.out | exact hx1 _ | exact hx2 _ | exact (Ext.alloc _ _).to_alloc _⟩


set_option maxRecDepth 20000 in
set_option maxHeartbeats 2000000 in
theorem pl_e98 {l : List Int} {A : Option Addr} {n c : Nat} {k g : Nat} {op : Bool} {w : World} (hnc : n ≤ c) (hcm : c ≤ maxLen) (hn : n ≤ 4096) (hk : k ≤ n) (hg1 : 1 ≤ g) (hg2 : g ≤ 4096) (h0 : k = 0) :
    Calls Try.prog 53 #[.agg #[.slice A n c, .int .i64 k, .int .i64 g, .bool op], .int .i64 98] w fun e w' => e = outP (none) ∧ Ext w w' := by
  unfold maxLen at hcm
  have hx0 : Ext w ((w.alloc (.cells #[.slice A n c, .int .i64 k, .int .i64 g, .bool op] 99)).alloc (.cells #[.int .i64 0, .bool false] 101)) := (Ext.alloc _ _).to_alloc _
  have hb2 := place_new w (.slice A n c) (.int .i64 k) (.int .i64 g) (.bool op)
  have hb1 := goer_new w (.slice A n c) (.int .i64 k) (.int .i64 g) (.bool op)
  have HB := Lib.hid hb2
  have HE := Lib.hid hx0
  have c0 := hb2.cell 0
  have c1 := hb2.cell 1
  have f0 := hb2.frozen 0
  have f1 := hb2.frozen 1
  have d0 := hb1.cell 0
  have d1 := hb1.cell 1
  have d2 := hb1.cell 2
  have d3 := hb1.cell 3
  simp only [List.getElem?_toArray, List.getElem?_cons_zero, List.getElem?_cons_succ] at c0 c1 d0 d1 d2 d3
  clear hb2 hb1 hx0
  go_enter Try.func53, Try.ntmps53
  go_wp2_with fail
  all_goals
    obtain ⟨c6, c7, hx, hx1, hx2⟩ := slot_facts HB.out HE.out (by simp)
    refine bodyPost_ret (by simp [results, Try.results53, go_sem, c6, c7]; try rfl) rfl ?_
    refine ⟨rfl, by first | exact hx _ _ | exact HE.out | exact hx1 _ | exact hx2 _ | exact (Ext.alloc _ _).to_alloc _⟩


set_option maxRecDepth 20000 in
set_option maxHeartbeats 2000000 in
theorem pl_98 {l : List Int} {A : Option Addr} {n c : Nat} {k g : Nat} {op : Bool} {w : World} (hnc : n ≤ c) (hcm : c ≤ maxLen) (hn : n ≤ 4096) (hk : k ≤ n) (hg1 : 1 ≤ g) (hg2 : g ≤ 4096) {X : Nat} (h0 : 0 < k) (H : Hid (∀ w1 : World, Ext w w1 → Calls Try.prog 63 #[.agg #[.slice A n c, .int .i64 k, .int .i64 g, .bool op], .func (.func 25) #[] #[], .bool false] w1 fun e w' => e = .returned (.int .i64 X) ∧ Ext w1 w')) :
    Calls Try.prog 53 #[.agg #[.slice A n c, .int .i64 k, .int .i64 g, .bool op], .int .i64 98] w fun e w' => e = outP (some (X, false)) ∧ Ext w w' := by
  unfold maxLen at hcm
  have hx0 : Ext w ((w.alloc (.cells #[.slice A n c, .int .i64 k, .int .i64 g, .bool op] 99)).alloc (.cells #[.int .i64 0, .bool false] 101)) := (Ext.alloc _ _).to_alloc _
  have hb2 := place_new w (.slice A n c) (.int .i64 k) (.int .i64 g) (.bool op)
  have hb1 := goer_new w (.slice A n c) (.int .i64 k) (.int .i64 g) (.bool op)
  have d0 := hb1.cell 0
  have d1 := hb1.cell 1
  simp only [List.getElem?_toArray, List.getElem?_cons_zero, List.getElem?_cons_succ] at d0 d1
  go_enter Try.func53, Try.ntmps53
  go_wp2_with fail
  refine (H.out _ hx0).mono ?_
  rintro e w1 ⟨rfl, he1⟩
  clear d0 d1
  have hq2 := hb2.ext he1
  have hq1 := hb1.ext he1
  have HB := Lib.hid hq2
  have HE := Lib.hid (hx0.trans he1)
  have c0 := hq2.cell 0
  have c1 := hq2.cell 1
  have f0 := hq2.frozen 0
  have f1 := hq2.frozen 1
  have d0 := hq1.cell 0
  have d1 := hq1.cell 1
  have d2 := hq1.cell 2
  have d3 := hq1.cell 3
  simp only [List.getElem?_toArray, List.getElem?_cons_zero, List.getElem?_cons_succ] at c0 c1 d0 d1 d2 d3
  clear hb2 hb1 hx0 he1 hq1 hq2
  go_wp2_with fail
  all_goals
    obtain ⟨c6, c7, hx, hx1, hx2⟩ := slot_facts HB.out HE.out (by simp)
    refine bodyPost_ret (by simp [results, Try.results53, go_sem, c6, c7]; try rfl) rfl ?_
    refine ⟨rfl, by first | exact hx _ _ | exact HE.out | exact hx1 _ | exact hx2 _ | exact (Ext.alloc _ _).to_alloc _⟩


set_option maxRecDepth 20000 in
set_option maxHeartbeats 2000000 in
theorem pl_e66 {l : List Int} {A : Option Addr} {n c : Nat} {k g : Nat} {op : Bool} {w : World} (hnc : n ≤ c) (hcm : c ≤ maxLen) (hn : n ≤ 4096) (hk : k ≤ n) (hg1 : 1 ≤ g) (hg2 : g ≤ 4096) (h0 : k = 0) :
    Calls Try.prog 53 #[.agg #[.slice A n c, .int .i64 k, .int .i64 g, .bool op], .int .i64 66] w fun e w' => e = outP (none) ∧ Ext w w' := by
  unfold maxLen at hcm
  have hx0 : Ext w ((w.alloc (.cells #[.slice A n c, .int .i64 k, .int .i64 g, .bool op] 99)).alloc (.cells #[.int .i64 0, .bool false] 101)) := (Ext.alloc _ _).to_alloc _
  have hb2 := place_new w (.slice A n c) (.int .i64 k) (.int .i64 g) (.bool op)
  have hb1 := goer_new w (.slice A n c) (.int .i64 k) (.int .i64 g) (.bool op)
  have HB := Lib.hid hb2
  have HE := Lib.hid hx0
  have c0 := hb2.cell 0
  have c1 := hb2.cell 1
  have f0 := hb2.frozen 0
  have f1 := hb2.frozen 1
  have d0 := hb1.cell 0
  have d1 := hb1.cell 1
  have d2 := hb1.cell 2
  have d3 := hb1.cell 3
  simp only [List.getElem?_toArray, List.getElem?_cons_zero, List.getElem?_cons_succ] at c0 c1 d0 d1 d2 d3
  clear hb2 hb1 hx0
  go_enter Try.func53, Try.ntmps53
  go_wp2_with fail
  all_goals
    obtain ⟨c6, c7, hx, hx1, hx2⟩ := slot_facts HB.out HE.out (by simp)
    refine bodyPost_ret (by simp [results, Try.results53, go_sem, c6, c7]; try rfl) rfl ?_
    refine ⟨rfl, by first | exact hx _ _ | exact HE.out | exact hx1 _ | exact hx2 _ | exact (Ext.alloc _ _).to_alloc _⟩


set_option maxRecDepth 20000 in
set_option maxHeartbeats 2000000 in
theorem pl_66 {l : List Int} {A : Option Addr} {n c : Nat} {k g : Nat} {op : Bool} {w : World} (hnc : n ≤ c) (hcm : c ≤ maxLen) (hn : n ≤ 4096) (hk : k ≤ n) (hg1 : 1 ≤ g) (hg2 : g ≤ 4096) {X : Nat} (h0 : 0 < k) (H : Hid (∀ w1 : World, Ext w w1 → Calls Try.prog 63 #[.agg #[.slice A n c, .int .i64 k, .int .i64 g, .bool op], .func (.func 25) #[] #[], .bool true] w1 fun e w' => e = .returned (.int .i64 X) ∧ Ext w1 w')) :
    Calls Try.prog 53 #[.agg #[.slice A n c, .int .i64 k, .int .i64 g, .bool op], .int .i64 66] w fun e w' => e = outP (some (X, false)) ∧ Ext w w' := by
  unfold maxLen at hcm
  have hx0 : Ext w ((w.alloc (.cells #[.slice A n c, .int .i64 k, .int .i64 g, .bool op] 99)).alloc (.cells #[.int .i64 0, .bool false] 101)) := (Ext.alloc _ _).to_alloc _
  have hb2 := place_new w (.slice A n c) (.int .i64 k) (.int .i64 g) (.bool op)
  have hb1 := goer_new w (.slice A n c) (.int .i64 k) (.int .i64 g) (.bool op)
  have d0 := hb1.cell 0
  have d1 := hb1.cell 1
  simp only [List.getElem?_toArray, List.getElem?_cons_zero, List.getElem?_cons_succ] at d0 d1
  go_enter Try.func53, Try.ntmps53
  go_wp2_with fail
  refine (H.out _ hx0).mono ?_
  rintro e w1 ⟨rfl, he1⟩
  clear d0 d1
  have hq2 := hb2.ext he1
  have hq1 := hb1.ext he1
  have HB := Lib.hid hq2
  have HE := Lib.hid (hx0.trans he1)
  have c0 := hq2.cell 0
  have c1 := hq2.cell 1
  have f0 := hq2.frozen 0
  have f1 := hq2.frozen 1
  have d0 := hq1.cell 0
  have d1 := hq1.cell 1
  have d2 := hq1.cell 2
  have d3 := hq1.cell 3
  simp only [List.getElem?_toArray, List.getElem?_cons_zero, List.getElem?_cons_succ] at c0 c1 d0 d1 d2 d3
  clear hb2 hb1 hx0 he1 hq1 hq2
  go_wp2_with fail
  all_goals
    obtain ⟨c6, c7, hx, hx1, hx2⟩ := slot_facts HB.out HE.out (by simp)
    refine bodyPost_ret (by simp [results, Try.results53, go_sem, c6, c7]; try rfl) rfl ?_
    refine ⟨rfl, by first | exact hx _ _ | exact HE.out | exact hx1 _ | exact hx2 _ | exact (Ext.alloc _ _).to_alloc _⟩


set_option maxRecDepth 20000 in
set_option maxHeartbeats 2000000 in
theorem pl_108 {l : List Int} {A : Option Addr} {n c : Nat} {k g : Nat} {op : Bool} {w : World} (hnc : n ≤ c) (hcm : c ≤ maxLen) (hn : n ≤ 4096) (hk : k ≤ n) (hg1 : 1 ≤ g) (hg2 : g ≤ 4096) {o : Option (Nat × Bool)} (H : Hid (∀ w1 : World, Ext w w1 → Calls Try.prog 61 #[.agg #[.slice A n c, .int .i64 k, .int .i64 g, .bool op]] w1 fun e w' => e = outP o ∧ Ext w1 w')) :
    Calls Try.prog 53 #[.agg #[.slice A n c, .int .i64 k, .int .i64 g, .bool op], .int .i64 108] w fun e w' => e = outP (o) ∧ Ext w w' := by
  unfold maxLen at hcm
  have hx0 : Ext w ((w.alloc (.cells #[.slice A n c, .int .i64 k, .int .i64 g, .bool op] 99)).alloc (.cells #[.int .i64 0, .bool false] 101)) := (Ext.alloc _ _).to_alloc _
  have hb2 := place_new w (.slice A n c) (.int .i64 k) (.int .i64 g) (.bool op)
  have hb1 := goer_new w (.slice A n c) (.int .i64 k) (.int .i64 g) (.bool op)
  rcases o with _ | ⟨a, i⟩
  · have d0 := hb1.cell 0
    have d1 := hb1.cell 1
    simp only [List.getElem?_toArray, List.getElem?_cons_zero, List.getElem?_cons_succ] at d0 d1
    go_enter Try.func53, Try.ntmps53
    go_wp2_with fail
    refine (H.out _ hx0).mono ?_
    rintro e w1 ⟨he, he1⟩
    rw [outP_none] at he
    subst he
    clear d0 d1
    have hq2 := hb2.ext he1
    have hq1 := hb1.ext he1
    have HB := Lib.hid hq2
    have HE := Lib.hid (hx0.trans he1)
    have c0 := hq2.cell 0
    have c1 := hq2.cell 1
    have f0 := hq2.frozen 0
    have f1 := hq2.frozen 1
    have d0 := hq1.cell 0
    have d1 := hq1.cell 1
    have d2 := hq1.cell 2
    have d3 := hq1.cell 3
    simp only [List.getElem?_toArray, List.getElem?_cons_zero, List.getElem?_cons_succ] at c0 c1 d0 d1 d2 d3
    clear hb2 hb1 hx0 he1 hq1 hq2
    go_wp2_with fail
    all_goals
      obtain ⟨c6, c7, hx, hx1, hx2⟩ := slot_facts HB.out HE.out (by simp)
      refine bodyPost_ret (by simp [results, Try.results53, go_sem, c6, c7]; try rfl) rfl ?_
      refine ⟨rfl, by first | exact hx _ _ | exact HE.out | exact hx1 _ | exact hx2 _ | exact (Ext.alloc _ _).to_alloc _⟩
  · have d0 := hb1.cell 0
    have d1 := hb1.cell 1
    simp only [List.getElem?_toArray, List.getElem?_cons_zero, List.getElem?_cons_succ] at d0 d1
    go_enter Try.func53, Try.ntmps53
    go_wp2_with fail
    refine (H.out _ hx0).mono ?_
    rintro e w1 ⟨he, he1⟩
    rw [outP_some] at he
    subst he
    clear d0 d1
    have hq2 := hb2.ext he1
    have hq1 := hb1.ext he1
    have HB := Lib.hid hq2
    have HE := Lib.hid (hx0.trans he1)
    have c0 := hq2.cell 0
    have c1 := hq2.cell 1
    have f0 := hq2.frozen 0
    have f1 := hq2.frozen 1
    have d0 := hq1.cell 0
    have d1 := hq1.cell 1
    have d2 := hq1.cell 2
    have d3 := hq1.cell 3
    simp only [List.getElem?_toArray, List.getElem?_cons_zero, List.getElem?_cons_succ] at c0 c1 d0 d1 d2 d3
    clear hb2 hb1 hx0 he1 hq1 hq2
    go_wp2_with fail
    all_goals
      obtain ⟨c6, c7, hx, hx1, hx2⟩ := slot_facts HB.out HE.out (by simp)
      refine bodyPost_ret (by simp [results, Try.results53, go_sem, c6, c7]; try rfl) rfl ?_
      refine ⟨rfl, by first | exact hx _ _ | exact HE.out | exact hx1 _ | exact hx2 _ | exact (Ext.alloc _ _).to_alloc _⟩


set_option maxRecDepth 20000 in
set_option maxHeartbeats 2000000 in
theorem pl_119 {l : List Int} {A : Option Addr} {n c : Nat} {k g : Nat} {op : Bool} {w : World} (hnc : n ≤ c) (hcm : c ≤ maxLen) (hn : n ≤ 4096) (hk : k ≤ n) (hg1 : 1 ≤ g) (hg2 : g ≤ 4096) {o : Option (Nat × Bool)} (h0 : 0 < n) (H : Hid (∀ w1 : World, Ext w w1 → Calls Try.prog 64 #[.agg #[.slice A n c, .int .i64 k, .int .i64 g, .bool op], .bool false] w1 fun e w' => e = outP o ∧ Ext w1 w')) :
    Calls Try.prog 53 #[.agg #[.slice A n c, .int .i64 k, .int .i64 g, .bool op], .int .i64 119] w fun e w' => e = outP (o) ∧ Ext w w' := by
  unfold maxLen at hcm
  have hx0 : Ext w ((w.alloc (.cells #[.slice A n c, .int .i64 k, .int .i64 g, .bool op] 99)).alloc (.cells #[.int .i64 0, .bool false] 101)) := (Ext.alloc _ _).to_alloc _
  have hb2 := place_new w (.slice A n c) (.int .i64 k) (.int .i64 g) (.bool op)
  have hb1 := goer_new w (.slice A n c) (.int .i64 k) (.int .i64 g) (.bool op)
  rcases o with _ | ⟨a, i⟩
  · have d0 := hb1.cell 0
    have d1 := hb1.cell 1
    simp only [List.getElem?_toArray, List.getElem?_cons_zero, List.getElem?_cons_succ] at d0 d1
    go_enter Try.func53, Try.ntmps53
    go_wp2_with fail
    refine (H.out _ hx0).mono ?_
    rintro e w1 ⟨he, he1⟩
    rw [outP_none] at he
    subst he
    clear d0 d1
    have hq2 := hb2.ext he1
    have hq1 := hb1.ext he1
    have HB := Lib.hid hq2
    have HE := Lib.hid (hx0.trans he1)
    have c0 := hq2.cell 0
    have c1 := hq2.cell 1
    have f0 := hq2.frozen 0
    have f1 := hq2.frozen 1
    have d0 := hq1.cell 0
    have d1 := hq1.cell 1
    have d2 := hq1.cell 2
    have d3 := hq1.cell 3
    simp only [List.getElem?_toArray, List.getElem?_cons_zero, List.getElem?_cons_succ] at c0 c1 d0 d1 d2 d3
    clear hb2 hb1 hx0 he1 hq1 hq2
    go_wp2_with fail
    all_goals
      obtain ⟨c6, c7, hx, hx1, hx2⟩ := slot_facts HB.out HE.out (by simp)
      refine bodyPost_ret (by simp [results, Try.results53, go_sem, c6, c7]; try rfl) rfl ?_
      refine ⟨rfl, by first | exact hx _ _ | exact HE.out | exact hx1 _ | exact hx2 _ | exact (Ext.alloc _ _).to_alloc _⟩
  · have d0 := hb1.cell 0
    have d1 := hb1.cell 1
    simp only [List.getElem?_toArray, List.getElem?_cons_zero, List.getElem?_cons_succ] at d0 d1
    go_enter Try.func53, Try.ntmps53
    go_wp2_with fail
    refine (H.out _ hx0).mono ?_
    rintro e w1 ⟨he, he1⟩
    rw [outP_some] at he
    subst he
    clear d0 d1
    have hq2 := hb2.ext he1
    have hq1 := hb1.ext he1
    have HB := Lib.hid hq2
    have HE := Lib.hid (hx0.trans he1)
    have c0 := hq2.cell 0
    have c1 := hq2.cell 1
    have f0 := hq2.frozen 0
    have f1 := hq2.frozen 1
    have d0 := hq1.cell 0
    have d1 := hq1.cell 1
    have d2 := hq1.cell 2
    have d3 := hq1.cell 3
    simp only [List.getElem?_toArray, List.getElem?_cons_zero, List.getElem?_cons_succ] at c0 c1 d0 d1 d2 d3
    clear hb2 hb1 hx0 he1 hq1 hq2
    go_wp2_with fail
    all_goals
      obtain ⟨c6, c7, hx, hx1, hx2⟩ := slot_facts HB.out HE.out (by simp)
      refine bodyPost_ret (by simp [results, Try.results53, go_sem, c6, c7]; try rfl) rfl ?_
      refine ⟨rfl, by first | exact hx _ _ | exact HE.out | exact hx1 _ | exact hx2 _ | exact (Ext.alloc _ _).to_alloc _⟩


set_option maxRecDepth 20000 in
set_option maxHeartbeats 2000000 in
theorem pl_87 {l : List Int} {A : Option Addr} {n c : Nat} {k g : Nat} {op : Bool} {w : World} (hnc : n ≤ c) (hcm : c ≤ maxLen) (hn : n ≤ 4096) (hk : k ≤ n) (hg1 : 1 ≤ g) (hg2 : g ≤ 4096) {o : Option (Nat × Bool)} (h0 : 0 < n) (H : Hid (∀ w1 : World, Ext w w1 → Calls Try.prog 64 #[.agg #[.slice A n c, .int .i64 k, .int .i64 g, .bool op], .bool true] w1 fun e w' => e = outP o ∧ Ext w1 w')) :
    Calls Try.prog 53 #[.agg #[.slice A n c, .int .i64 k, .int .i64 g, .bool op], .int .i64 87] w fun e w' => e = outP (o) ∧ Ext w w' := by
  unfold maxLen at hcm
  have hx0 : Ext w ((w.alloc (.cells #[.slice A n c, .int .i64 k, .int .i64 g, .bool op] 99)).alloc (.cells #[.int .i64 0, .bool false] 101)) := (Ext.alloc _ _).to_alloc _
  have hb2 := place_new w (.slice A n c) (.int .i64 k) (.int .i64 g) (.bool op)
  have hb1 := goer_new w (.slice A n c) (.int .i64 k) (.int .i64 g) (.bool op)
  rcases o with _ | ⟨a, i⟩
  · have d0 := hb1.cell 0
    have d1 := hb1.cell 1
    simp only [List.getElem?_toArray, List.getElem?_cons_zero, List.getElem?_cons_succ] at d0 d1
    go_enter Try.func53, Try.ntmps53
    go_wp2_with fail
    refine (H.out _ hx0).mono ?_
    rintro e w1 ⟨he, he1⟩
    rw [outP_none] at he
    subst he
    clear d0 d1
    have hq2 := hb2.ext he1
    have hq1 := hb1.ext he1
    have HB := Lib.hid hq2
    have HE := Lib.hid (hx0.trans he1)
    have c0 := hq2.cell 0
    have c1 := hq2.cell 1
    have f0 := hq2.frozen 0
    have f1 := hq2.frozen 1
    have d0 := hq1.cell 0
    have d1 := hq1.cell 1
    have d2 := hq1.cell 2
    have d3 := hq1.cell 3
    simp only [List.getElem?_toArray, List.getElem?_cons_zero, List.getElem?_cons_succ] at c0 c1 d0 d1 d2 d3
    clear hb2 hb1 hx0 he1 hq1 hq2
    go_wp2_with fail
    all_goals
      obtain ⟨c6, c7, hx, hx1, hx2⟩ := slot_facts HB.out HE.out (by simp)
      refine bodyPost_ret (by simp [results, Try.results53, go_sem, c6, c7]; try rfl) rfl ?_
      refine ⟨rfl, by first | exact hx _ _ | exact HE.out | exact hx1 _ | exact hx2 _ | exact (Ext.alloc _ _).to_alloc _⟩
  · have d0 := hb1.cell 0
    have d1 := hb1.cell 1
    simp only [List.getElem?_toArray, List.getElem?_cons_zero, List.getElem?_cons_succ] at d0 d1
    go_enter Try.func53, Try.ntmps53
    go_wp2_with fail
    refine (H.out _ hx0).mono ?_
    rintro e w1 ⟨he, he1⟩
    rw [outP_some] at he
    subst he
    clear d0 d1
    have hq2 := hb2.ext he1
    have hq1 := hb1.ext he1
    have HB := Lib.hid hq2
    have HE := Lib.hid (hx0.trans he1)
    have c0 := hq2.cell 0
    have c1 := hq2.cell 1
    have f0 := hq2.frozen 0
    have f1 := hq2.frozen 1
    have d0 := hq1.cell 0
    have d1 := hq1.cell 1
    have d2 := hq1.cell 2
    have d3 := hq1.cell 3
    simp only [List.getElem?_toArray, List.getElem?_cons_zero, List.getElem?_cons_succ] at c0 c1 d0 d1 d2 d3
    clear hb2 hb1 hx0 he1 hq1 hq2
    go_wp2_with fail
    all_goals
      obtain ⟨c6, c7, hx, hx1, hx2⟩ := slot_facts HB.out HE.out (by simp)
      refine bodyPost_ret (by simp [results, Try.results53, go_sem, c6, c7]; try rfl) rfl ?_
      refine ⟨rfl, by first | exact hx _ _ | exact HE.out | exact hx1 _ | exact hx2 _ | exact (Ext.alloc _ _).to_alloc _⟩


set_option maxRecDepth 20000 in
set_option maxHeartbeats 2000000 in
theorem pl_101 {l : List Int} {A : Option Addr} {n c : Nat} {k g : Nat} {op : Bool} {w : World} (hnc : n ≤ c) (hcm : c ≤ maxLen) (hn : n ≤ 4096) (hk : k ≤ n) (hg1 : 1 ≤ g) (hg2 : g ≤ 4096) {o : Option (Nat × Bool)} (h0 : 0 < n) (H : Hid (∀ w1 : World, Ext w w1 → Calls Try.prog 65 #[.agg #[.slice A n c, .int .i64 k, .int .i64 g, .bool op], .bool false] w1 fun e w' => e = outP o ∧ Ext w1 w')) :
    Calls Try.prog 53 #[.agg #[.slice A n c, .int .i64 k, .int .i64 g, .bool op], .int .i64 101] w fun e w' => e = outP (o) ∧ Ext w w' := by
  unfold maxLen at hcm
  have hx0 : Ext w ((w.alloc (.cells #[.slice A n c, .int .i64 k, .int .i64 g, .bool op] 99)).alloc (.cells #[.int .i64 0, .bool false] 101)) := (Ext.alloc _ _).to_alloc _
  have hb2 := place_new w (.slice A n c) (.int .i64 k) (.int .i64 g) (.bool op)
  have hb1 := goer_new w (.slice A n c) (.int .i64 k) (.int .i64 g) (.bool op)
  rcases o with _ | ⟨a, i⟩
  · have d0 := hb1.cell 0
    have d1 := hb1.cell 1
    simp only [List.getElem?_toArray, List.getElem?_cons_zero, List.getElem?_cons_succ] at d0 d1
    go_enter Try.func53, Try.ntmps53
    go_wp2_with fail
    refine (H.out _ hx0).mono ?_
    rintro e w1 ⟨he, he1⟩
    rw [outP_none] at he
    subst he
    clear d0 d1
    have hq2 := hb2.ext he1
    have hq1 := hb1.ext he1
    have HB := Lib.hid hq2
    have HE := Lib.hid (hx0.trans he1)
    have c0 := hq2.cell 0
    have c1 := hq2.cell 1
    have f0 := hq2.frozen 0
    have f1 := hq2.frozen 1
    have d0 := hq1.cell 0
    have d1 := hq1.cell 1
    have d2 := hq1.cell 2
    have d3 := hq1.cell 3
    simp only [List.getElem?_toArray, List.getElem?_cons_zero, List.getElem?_cons_succ] at c0 c1 d0 d1 d2 d3
    clear hb2 hb1 hx0 he1 hq1 hq2
    go_wp2_with fail
    all_goals
      obtain ⟨c6, c7, hx, hx1, hx2⟩ := slot_facts HB.out HE.out (by simp)
      refine bodyPost_ret (by simp [results, Try.results53, go_sem, c6, c7]; try rfl) rfl ?_
      refine ⟨rfl, by first | exact hx _ _ | exact HE.out | exact hx1 _ | exact hx2 _ | exact (Ext.alloc _ _).to_alloc _⟩
  · have d0 := hb1.cell 0
    have d1 := hb1.cell 1
    simp only [List.getElem?_toArray, List.getElem?_cons_zero, List.getElem?_cons_succ] at d0 d1
    go_enter Try.func53, Try.ntmps53
    go_wp2_with fail
    refine (H.out _ hx0).mono ?_
    rintro e w1 ⟨he, he1⟩
    rw [outP_some] at he
    subst he
    clear d0 d1
    have hq2 := hb2.ext he1
    have hq1 := hb1.ext he1
    have HB := Lib.hid hq2
    have HE := Lib.hid (hx0.trans he1)
    have c0 := hq2.cell 0
    have c1 := hq2.cell 1
    have f0 := hq2.frozen 0
    have f1 := hq2.frozen 1
    have d0 := hq1.cell 0
    have d1 := hq1.cell 1
    have d2 := hq1.cell 2
    have d3 := hq1.cell 3
    simp only [List.getElem?_toArray, List.getElem?_cons_zero, List.getElem?_cons_succ] at c0 c1 d0 d1 d2 d3
    clear hb2 hb1 hx0 he1 hq1 hq2
    go_wp2_with fail
    all_goals
      obtain ⟨c6, c7, hx, hx1, hx2⟩ := slot_facts HB.out HE.out (by simp)
      refine bodyPost_ret (by simp [results, Try.results53, go_sem, c6, c7]; try rfl) rfl ?_
      refine ⟨rfl, by first | exact hx _ _ | exact HE.out | exact hx1 _ | exact hx2 _ | exact (Ext.alloc _ _).to_alloc _⟩


set_option maxRecDepth 20000 in
set_option maxHeartbeats 2000000 in
theorem pl_69 {l : List Int} {A : Option Addr} {n c : Nat} {k g : Nat} {op : Bool} {w : World} (hnc : n ≤ c) (hcm : c ≤ maxLen) (hn : n ≤ 4096) (hk : k ≤ n) (hg1 : 1 ≤ g) (hg2 : g ≤ 4096) {o : Option (Nat × Bool)} (h0 : 0 < n) (H : Hid (∀ w1 : World, Ext w w1 → Calls Try.prog 65 #[.agg #[.slice A n c, .int .i64 k, .int .i64 g, .bool op], .bool true] w1 fun e w' => e = outP o ∧ Ext w1 w')) :
    Calls Try.prog 53 #[.agg #[.slice A n c, .int .i64 k, .int .i64 g, .bool op], .int .i64 69] w fun e w' => e = outP (o) ∧ Ext w w' := by
  unfold maxLen at hcm
  have hx0 : Ext w ((w.alloc (.cells #[.slice A n c, .int .i64 k, .int .i64 g, .bool op] 99)).alloc (.cells #[.int .i64 0, .bool false] 101)) := (Ext.alloc _ _).to_alloc _
  have hb2 := place_new w (.slice A n c) (.int .i64 k) (.int .i64 g) (.bool op)
  have hb1 := goer_new w (.slice A n c) (.int .i64 k) (.int .i64 g) (.bool op)
  rcases o with _ | ⟨a, i⟩
  · have d0 := hb1.cell 0
    have d1 := hb1.cell 1
    simp only [List.getElem?_toArray, List.getElem?_cons_zero, List.getElem?_cons_succ] at d0 d1
    go_enter Try.func53, Try.ntmps53
    go_wp2_with fail
    refine (H.out _ hx0).mono ?_
    rintro e w1 ⟨he, he1⟩
    rw [outP_none] at he
    subst he
    clear d0 d1
    have hq2 := hb2.ext he1
    have hq1 := hb1.ext he1
    have HB := Lib.hid hq2
    have HE := Lib.hid (hx0.trans he1)
    have c0 := hq2.cell 0
    have c1 := hq2.cell 1
    have f0 := hq2.frozen 0
    have f1 := hq2.frozen 1
    have d0 := hq1.cell 0
    have d1 := hq1.cell 1
    have d2 := hq1.cell 2
    have d3 := hq1.cell 3
    simp only [List.getElem?_toArray, List.getElem?_cons_zero, List.getElem?_cons_succ] at c0 c1 d0 d1 d2 d3
    clear hb2 hb1 hx0 he1 hq1 hq2
    go_wp2_with fail
    all_goals
      obtain ⟨c6, c7, hx, hx1, hx2⟩ := slot_facts HB.out HE.out (by simp)
      refine bodyPost_ret (by simp [results, Try.results53, go_sem, c6, c7]; try rfl) rfl ?_
      refine ⟨rfl, by first | exact hx _ _ | exact HE.out | exact hx1 _ | exact hx2 _ | exact (Ext.alloc _ _).to_alloc _⟩
  · have d0 := hb1.cell 0
    have d1 := hb1.cell 1
    simp only [List.getElem?_toArray, List.getElem?_cons_zero, List.getElem?_cons_succ] at d0 d1
    go_enter Try.func53, Try.ntmps53
    go_wp2_with fail
    refine (H.out _ hx0).mono ?_
    rintro e w1 ⟨he, he1⟩
    rw [outP_some] at he
    subst he
    clear d0 d1
    have hq2 := hb2.ext he1
    have hq1 := hb1.ext he1
    have HB := Lib.hid hq2
    have HE := Lib.hid (hx0.trans he1)
    have c0 := hq2.cell 0
    have c1 := hq2.cell 1
    have f0 := hq2.frozen 0
    have f1 := hq2.frozen 1
    have d0 := hq1.cell 0
    have d1 := hq1.cell 1
    have d2 := hq1.cell 2
    have d3 := hq1.cell 3
    simp only [List.getElem?_toArray, List.getElem?_cons_zero, List.getElem?_cons_succ] at c0 c1 d0 d1 d2 d3
    clear hb2 hb1 hx0 he1 hq1 hq2
    go_wp2_with fail
    all_goals
      obtain ⟨c6, c7, hx, hx1, hx2⟩ := slot_facts HB.out HE.out (by simp)
      refine bodyPost_ret (by simp [results, Try.results53, go_sem, c6, c7]; try rfl) rfl ?_
      refine ⟨rfl, by first | exact hx _ _ | exact HE.out | exact hx1 _ | exact hx2 _ | exact (Ext.alloc _ _).to_alloc _⟩


set_option maxRecDepth 20000 in
set_option maxHeartbeats 2000000 in
theorem pl_37 {l : List Int} {A : Option Addr} {n c : Nat} {k g : Nat} {op : Bool} {w : World} (hnc : n ≤ c) (hcm : c ≤ maxLen) (hn : n ≤ 4096) (hk : k ≤ n) (hg1 : 1 ≤ g) (hg2 : g ≤ 4096) {R : Option (Nat × Bool) → Prop} (h0 : 0 < n) (H : Hid (∀ w1 : World, Ext w w1 → Calls Try.prog 66 #[.agg #[.slice A n c, .int .i64 k, .int .i64 g, .bool op]] w1 fun e w' => (∃ o, R o ∧ e = outP o) ∧ Ext w1 w')) :
    Calls Try.prog 53 #[.agg #[.slice A n c, .int .i64 k, .int .i64 g, .bool op], .int .i64 37] w fun e w' => (∃ o, R o ∧ e = outP o) ∧ Ext w w' := by
  unfold maxLen at hcm
  have hx0 : Ext w ((w.alloc (.cells #[.slice A n c, .int .i64 k, .int .i64 g, .bool op] 99)).alloc (.cells #[.int .i64 0, .bool false] 101)) := (Ext.alloc _ _).to_alloc _
  have hb2 := place_new w (.slice A n c) (.int .i64 k) (.int .i64 g) (.bool op)
  have hb1 := goer_new w (.slice A n c) (.int .i64 k) (.int .i64 g) (.bool op)
  have d0 := hb1.cell 0
  have d1 := hb1.cell 1
  simp only [List.getElem?_toArray, List.getElem?_cons_zero, List.getElem?_cons_succ] at d0 d1
  go_enter Try.func53, Try.ntmps53
  go_wp2_with fail
  refine (H.out _ hx0).mono ?_
  rintro e w1 ⟨⟨o, hR, he⟩, he1⟩
  have HR := Lib.hid hR
  clear hR
  rcases o with _ | ⟨a, i⟩
  · rw [outP_none] at he
    subst he
    clear d0 d1
    have hq2 := hb2.ext he1
    have hq1 := hb1.ext he1
    have HB := Lib.hid hq2
    have HE := Lib.hid (hx0.trans he1)
    have c0 := hq2.cell 0
    have c1 := hq2.cell 1
    have f0 := hq2.frozen 0
    have f1 := hq2.frozen 1
    have d0 := hq1.cell 0
    have d1 := hq1.cell 1
    have d2 := hq1.cell 2
    have d3 := hq1.cell 3
    simp only [List.getElem?_toArray, List.getElem?_cons_zero, List.getElem?_cons_succ] at c0 c1 d0 d1 d2 d3
    clear hb2 hb1 hx0 he1 hq1 hq2
    go_wp2_with fail
    all_goals
      obtain ⟨c6, c7, hx, hx1, hx2⟩ := slot_facts HB.out HE.out (by simp)
      refine bodyPost_ret (by simp [results, Try.results53, go_sem, c6, c7]; try rfl) rfl ?_
      refine ⟨⟨_, HR.out, rfl⟩, by first | exact hx _ _ | exact HE.out | exact hx1 _ | exact hx2 _ | exact (Ext.alloc _ _).to_alloc _⟩
  · rw [outP_some] at he
    subst he
    clear d0 d1
    have hq2 := hb2.ext he1
    have hq1 := hb1.ext he1
    have HB := Lib.hid hq2
    have HE := Lib.hid (hx0.trans he1)
    have c0 := hq2.cell 0
    have c1 := hq2.cell 1
    have f0 := hq2.frozen 0
    have f1 := hq2.frozen 1
    have d0 := hq1.cell 0
    have d1 := hq1.cell 1
    have d2 := hq1.cell 2
    have d3 := hq1.cell 3
    simp only [List.getElem?_toArray, List.getElem?_cons_zero, List.getElem?_cons_succ] at c0 c1 d0 d1 d2 d3
    clear hb2 hb1 hx0 he1 hq1 hq2
    go_wp2_with fail
    all_goals
      obtain ⟨c6, c7, hx, hx1, hx2⟩ := slot_facts HB.out HE.out (by simp)
      refine bodyPost_ret (by simp [results, Try.results53, go_sem, c6, c7]; try rfl) rfl ?_
      refine ⟨⟨_, HR.out, rfl⟩, by first | exact hx _ _ | exact HE.out | exact hx1 _ | exact hx2 _ | exact (Ext.alloc _ _).to_alloc _⟩

set_option maxRecDepth 20000 in
set_option maxHeartbeats 2000000 in
theorem fo_102n {l : List Int} {A : Option Addr} {n c : Nat} {k g : Nat} {op : Bool} {w : World} (hnc : n ≤ c) (hcm : c ≤ maxLen) (hn : n ≤ 4096) (hk : k ≤ n) (hg1 : 1 ≤ g) (hg2 : g ≤ 4096) {arg : Int} (H : Hid (∀ w1 : World, Ext w w1 → Calls Try.prog 60 #[.agg #[.slice A n c, .int .i64 k, .int .i64 g, .bool op], .int .i64 arg, .int .i64 1] w1 fun e w' => e = outF none ∧ Ext w1 w')) :
    Calls Try.prog 52 #[.agg #[.slice A n c, .int .i64 k, .int .i64 g, .bool op], .int .i64 102, .int .i64 arg] w fun e w' => e = outP (none) ∧ Ext w w' := by
  unfold maxLen at hcm
  have hx0 : Ext w ((w.alloc (.cells #[.slice A n c, .int .i64 k, .int .i64 g, .bool op] 99)).alloc (.cells #[.int .i64 0, .bool false] 101)) := (Ext.alloc _ _).to_alloc _
  have hb2 := place_new w (.slice A n c) (.int .i64 k) (.int .i64 g) (.bool op)
  have hb1 := goer_new w (.slice A n c) (.int .i64 k) (.int .i64 g) (.bool op)
  go_enter Try.func52, Try.ntmps52
  go_wp2_with fail
  refine (H.out _ hx0).mono ?_
  rintro e w1 ⟨he, he1⟩
  rw [outF_none] at he
  subst he
  have hq2 := hb2.ext he1
  have hq1 := hb1.ext he1
  have HB := Lib.hid hq2
  have HE := Lib.hid (hx0.trans he1)
  have c0 := hq2.cell 0
  have c1 := hq2.cell 1
  have f0 := hq2.frozen 0
  have f1 := hq2.frozen 1
  have d0 := hq1.cell 0
  have d1 := hq1.cell 1
  have d2 := hq1.cell 2
  have d3 := hq1.cell 3
  simp only [List.getElem?_toArray, List.getElem?_cons_zero, List.getElem?_cons_succ] at c0 c1 d0 d1 d2 d3
  clear hb2 hb1 hx0 he1 hq1 hq2
  go_wp2_with fail
  all_goals
    obtain ⟨c6, c7, hx, hx1, hx2⟩ := slot_facts HB.out HE.out (by simp)
    refine bodyPost_ret (by simp [results, Try.results52, go_sem, c6, c7]; try rfl) rfl ?_
    refine ⟨rfl, by first | exact hx _ _ | exact HE.out | exact hx1 _ | exact hx2 _ | exact (Ext.alloc _ _).to_alloc _⟩


set_option maxRecDepth 20000 in
set_option maxHeartbeats 2000000 in
theorem fo_102s {l : List Int} {A : Option Addr} {n c : Nat} {k g : Nat} {op : Bool} {w : World} (hnc : n ≤ c) (hcm : c ≤ maxLen) (hn : n ≤ 4096) (hk : k ≤ n) (hg1 : 1 ≤ g) (hg2 : g ≤ 4096) {arg : Int} {j : Nat} (hj : 1 ≤ j ∧ j ≤ 4096) (H : Hid (∀ w1 : World, Ext w w1 → Calls Try.prog 60 #[.agg #[.slice A n c, .int .i64 k, .int .i64 g, .bool op], .int .i64 arg, .int .i64 1] w1 fun e w' => e = outF (some j) ∧ Ext w1 w')) :
    Calls Try.prog 52 #[.agg #[.slice A n c, .int .i64 k, .int .i64 g, .bool op], .int .i64 102, .int .i64 arg] w fun e w' => e = outP (some (j, true)) ∧ Ext w w' := by
  unfold maxLen at hcm
  have hx0 : Ext w ((w.alloc (.cells #[.slice A n c, .int .i64 k, .int .i64 g, .bool op] 99)).alloc (.cells #[.int .i64 0, .bool false] 101)) := (Ext.alloc _ _).to_alloc _
  have hb2 := place_new w (.slice A n c) (.int .i64 k) (.int .i64 g) (.bool op)
  have hb1 := goer_new w (.slice A n c) (.int .i64 k) (.int .i64 g) (.bool op)
  go_enter Try.func52, Try.ntmps52
  go_wp2_with fail
  refine (H.out _ hx0).mono ?_
  rintro e w1 ⟨he, he1⟩
  rw [outF_some] at he
  subst he
  have hq2 := hb2.ext he1
  have hq1 := hb1.ext he1
  have HB := Lib.hid hq2
  have HE := Lib.hid (hx0.trans he1)
  have c0 := hq2.cell 0
  have c1 := hq2.cell 1
  have f0 := hq2.frozen 0
  have f1 := hq2.frozen 1
  have d0 := hq1.cell 0
  have d1 := hq1.cell 1
  have d2 := hq1.cell 2
  have d3 := hq1.cell 3
  simp only [List.getElem?_toArray, List.getElem?_cons_zero, List.getElem?_cons_succ] at c0 c1 d0 d1 d2 d3
  clear hb2 hb1 hx0 he1 hq1 hq2
  go_wp2_with fail
  all_goals
    obtain ⟨c6, c7, hx, hx1, hx2⟩ := slot_facts HB.out HE.out (by simp)
    refine bodyPost_ret (by simp [results, Try.results52, go_sem, c6, c7]; try rfl) rfl ?_
    refine ⟨ret_place (by omega), by first | exact hx _ _ | exact HE.out | exact hx1 _ | exact hx2 _ | exact (Ext.alloc _ _).to_alloc _⟩


set_option maxRecDepth 20000 in
set_option maxHeartbeats 2000000 in
theorem fo_70n {l : List Int} {A : Option Addr} {n c : Nat} {k g : Nat} {op : Bool} {w : World} (hnc : n ≤ c) (hcm : c ≤ maxLen) (hn : n ≤ 4096) (hk : k ≤ n) (hg1 : 1 ≤ g) (hg2 : g ≤ 4096) {arg : Int} (H : Hid (∀ w1 : World, Ext w w1 → Calls Try.prog 60 #[.agg #[.slice A n c, .int .i64 k, .int .i64 g, .bool op], .int .i64 arg, .int .i64 (-1)] w1 fun e w' => e = outF none ∧ Ext w1 w')) :
    Calls Try.prog 52 #[.agg #[.slice A n c, .int .i64 k, .int .i64 g, .bool op], .int .i64 70, .int .i64 arg] w fun e w' => e = outP (none) ∧ Ext w w' := by
  unfold maxLen at hcm
  have hx0 : Ext w ((w.alloc (.cells #[.slice A n c, .int .i64 k, .int .i64 g, .bool op] 99)).alloc (.cells #[.int .i64 0, .bool false] 101)) := (Ext.alloc _ _).to_alloc _
  have hb2 := place_new w (.slice A n c) (.int .i64 k) (.int .i64 g) (.bool op)
  have hb1 := goer_new w (.slice A n c) (.int .i64 k) (.int .i64 g) (.bool op)
  go_enter Try.func52, Try.ntmps52
  go_wp2_with fail
  refine (H.out _ hx0).mono ?_
  rintro e w1 ⟨he, he1⟩
  rw [outF_none] at he
  subst he
  have hq2 := hb2.ext he1
  have hq1 := hb1.ext he1
  have HB := Lib.hid hq2
  have HE := Lib.hid (hx0.trans he1)
  have c0 := hq2.cell 0
  have c1 := hq2.cell 1
  have f0 := hq2.frozen 0
  have f1 := hq2.frozen 1
  have d0 := hq1.cell 0
  have d1 := hq1.cell 1
  have d2 := hq1.cell 2
  have d3 := hq1.cell 3
  simp only [List.getElem?_toArray, List.getElem?_cons_zero, List.getElem?_cons_succ] at c0 c1 d0 d1 d2 d3
  clear hb2 hb1 hx0 he1 hq1 hq2
  go_wp2_with fail
  all_goals
    obtain ⟨c6, c7, hx, hx1, hx2⟩ := slot_facts HB.out HE.out (by simp)
    refine bodyPost_ret (by simp [results, Try.results52, go_sem, c6, c7]; try rfl) rfl ?_
    refine ⟨rfl, by first | exact hx _ _ | exact HE.out | exact hx1 _ | exact hx2 _ | exact (Ext.alloc _ _).to_alloc _⟩


set_option maxRecDepth 20000 in
set_option maxHeartbeats 2000000 in
theorem fo_70s {l : List Int} {A : Option Addr} {n c : Nat} {k g : Nat} {op : Bool} {w : World} (hnc : n ≤ c) (hcm : c ≤ maxLen) (hn : n ≤ 4096) (hk : k ≤ n) (hg1 : 1 ≤ g) (hg2 : g ≤ 4096) {arg : Int} {j : Nat} (hj : j ≤ 4096) (H : Hid (∀ w1 : World, Ext w w1 → Calls Try.prog 60 #[.agg #[.slice A n c, .int .i64 k, .int .i64 g, .bool op], .int .i64 arg, .int .i64 (-1)] w1 fun e w' => e = outF (some j) ∧ Ext w1 w')) :
    Calls Try.prog 52 #[.agg #[.slice A n c, .int .i64 k, .int .i64 g, .bool op], .int .i64 70, .int .i64 arg] w fun e w' => e = outP (some (j, false)) ∧ Ext w w' := by
  unfold maxLen at hcm
  have hx0 : Ext w ((w.alloc (.cells #[.slice A n c, .int .i64 k, .int .i64 g, .bool op] 99)).alloc (.cells #[.int .i64 0, .bool false] 101)) := (Ext.alloc _ _).to_alloc _
  have hb2 := place_new w (.slice A n c) (.int .i64 k) (.int .i64 g) (.bool op)
  have hb1 := goer_new w (.slice A n c) (.int .i64 k) (.int .i64 g) (.bool op)
  go_enter Try.func52, Try.ntmps52
  go_wp2_with fail
  refine (H.out _ hx0).mono ?_
  rintro e w1 ⟨he, he1⟩
  rw [outF_some] at he
  subst he
  have hq2 := hb2.ext he1
  have hq1 := hb1.ext he1
  have HB := Lib.hid hq2
  have HE := Lib.hid (hx0.trans he1)
  have c0 := hq2.cell 0
  have c1 := hq2.cell 1
  have f0 := hq2.frozen 0
  have f1 := hq2.frozen 1
  have d0 := hq1.cell 0
  have d1 := hq1.cell 1
  have d2 := hq1.cell 2
  have d3 := hq1.cell 3
  simp only [List.getElem?_toArray, List.getElem?_cons_zero, List.getElem?_cons_succ] at c0 c1 d0 d1 d2 d3
  clear hb2 hb1 hx0 he1 hq1 hq2
  go_wp2_with fail
  all_goals
    obtain ⟨c6, c7, hx, hx1, hx2⟩ := slot_facts HB.out HE.out (by simp)
    refine bodyPost_ret (by simp [results, Try.results52, go_sem, c6, c7]; try rfl) rfl ?_
    refine ⟨ret_place (by omega), by first | exact hx _ _ | exact HE.out | exact hx1 _ | exact hx2 _ | exact (Ext.alloc _ _).to_alloc _⟩


set_option maxRecDepth 20000 in
set_option maxHeartbeats 2000000 in
theorem fo_116n {l : List Int} {A : Option Addr} {n c : Nat} {k g : Nat} {op : Bool} {w : World} (hnc : n ≤ c) (hcm : c ≤ maxLen) (hn : n ≤ 4096) (hk : k ≤ n) (hg1 : 1 ≤ g) (hg2 : g ≤ 4096) {arg : Int} (H : Hid (∀ w1 : World, Ext w w1 → Calls Try.prog 60 #[.agg #[.slice A n c, .int .i64 k, .int .i64 g, .bool op], .int .i64 arg, .int .i64 1] w1 fun e w' => e = outF none ∧ Ext w1 w')) :
    Calls Try.prog 52 #[.agg #[.slice A n c, .int .i64 k, .int .i64 g, .bool op], .int .i64 116, .int .i64 arg] w fun e w' => e = outP (none) ∧ Ext w w' := by
  unfold maxLen at hcm
  have hx0 : Ext w ((w.alloc (.cells #[.slice A n c, .int .i64 k, .int .i64 g, .bool op] 99)).alloc (.cells #[.int .i64 0, .bool false] 101)) := (Ext.alloc _ _).to_alloc _
  have hb2 := place_new w (.slice A n c) (.int .i64 k) (.int .i64 g) (.bool op)
  have hb1 := goer_new w (.slice A n c) (.int .i64 k) (.int .i64 g) (.bool op)
  go_enter Try.func52, Try.ntmps52
  go_wp2_with fail
  refine (H.out _ hx0).mono ?_
  rintro e w1 ⟨he, he1⟩
  rw [outF_none] at he
  subst he
  have hq2 := hb2.ext he1
  have hq1 := hb1.ext he1
  have HB := Lib.hid hq2
  have HE := Lib.hid (hx0.trans he1)
  have c0 := hq2.cell 0
  have c1 := hq2.cell 1
  have f0 := hq2.frozen 0
  have f1 := hq2.frozen 1
  have d0 := hq1.cell 0
  have d1 := hq1.cell 1
  have d2 := hq1.cell 2
  have d3 := hq1.cell 3
  simp only [List.getElem?_toArray, List.getElem?_cons_zero, List.getElem?_cons_succ] at c0 c1 d0 d1 d2 d3
  clear hb2 hb1 hx0 he1 hq1 hq2
  go_wp2_with fail
  all_goals
    obtain ⟨c6, c7, hx, hx1, hx2⟩ := slot_facts HB.out HE.out (by simp)
    refine bodyPost_ret (by simp [results, Try.results52, go_sem, c6, c7]; try rfl) rfl ?_
    refine ⟨rfl, by first | exact hx _ _ | exact HE.out | exact hx1 _ | exact hx2 _ | exact (Ext.alloc _ _).to_alloc _⟩


set_option maxRecDepth 20000 in
set_option maxHeartbeats 2000000 in
theorem fo_116s {l : List Int} {A : Option Addr} {n c : Nat} {k g : Nat} {op : Bool} {w : World} (hnc : n ≤ c) (hcm : c ≤ maxLen) (hn : n ≤ 4096) (hk : k ≤ n) (hg1 : 1 ≤ g) (hg2 : g ≤ 4096) {arg : Int} {j : Nat} (hj : 1 ≤ j ∧ j ≤ 4096) (H : Hid (∀ w1 : World, Ext w w1 → Calls Try.prog 60 #[.agg #[.slice A n c, .int .i64 k, .int .i64 g, .bool op], .int .i64 arg, .int .i64 1] w1 fun e w' => e = outF (some j) ∧ Ext w1 w')) :
    Calls Try.prog 52 #[.agg #[.slice A n c, .int .i64 k, .int .i64 g, .bool op], .int .i64 116, .int .i64 arg] w fun e w' => e = outP (some (j - 1, true)) ∧ Ext w w' := by
  unfold maxLen at hcm
  have hx0 : Ext w ((w.alloc (.cells #[.slice A n c, .int .i64 k, .int .i64 g, .bool op] 99)).alloc (.cells #[.int .i64 0, .bool false] 101)) := (Ext.alloc _ _).to_alloc _
  have hb2 := place_new w (.slice A n c) (.int .i64 k) (.int .i64 g) (.bool op)
  have hb1 := goer_new w (.slice A n c) (.int .i64 k) (.int .i64 g) (.bool op)
  go_enter Try.func52, Try.ntmps52
  go_wp2_with fail
  refine (H.out _ hx0).mono ?_
  rintro e w1 ⟨he, he1⟩
  rw [outF_some] at he
  subst he
  have hq2 := hb2.ext he1
  have hq1 := hb1.ext he1
  have HB := Lib.hid hq2
  have HE := Lib.hid (hx0.trans he1)
  have c0 := hq2.cell 0
  have c1 := hq2.cell 1
  have f0 := hq2.frozen 0
  have f1 := hq2.frozen 1
  have d0 := hq1.cell 0
  have d1 := hq1.cell 1
  have d2 := hq1.cell 2
  have d3 := hq1.cell 3
  simp only [List.getElem?_toArray, List.getElem?_cons_zero, List.getElem?_cons_succ] at c0 c1 d0 d1 d2 d3
  clear hb2 hb1 hx0 he1 hq1 hq2
  go_wp2_with fail
  all_goals
    obtain ⟨c6, c7, hx, hx1, hx2⟩ := slot_facts HB.out HE.out (by simp)
    refine bodyPost_ret (by simp [results, Try.results52, go_sem, c6, c7]; try rfl) rfl ?_
    refine ⟨ret_place (by omega), by first | exact hx _ _ | exact HE.out | exact hx1 _ | exact hx2 _ | exact (Ext.alloc _ _).to_alloc _⟩


set_option maxRecDepth 20000 in
set_option maxHeartbeats 2000000 in
theorem fo_84n {l : List Int} {A : Option Addr} {n c : Nat} {k g : Nat} {op : Bool} {w : World} (hnc : n ≤ c) (hcm : c ≤ maxLen) (hn : n ≤ 4096) (hk : k ≤ n) (hg1 : 1 ≤ g) (hg2 : g ≤ 4096) {arg : Int} (H : Hid (∀ w1 : World, Ext w w1 → Calls Try.prog 60 #[.agg #[.slice A n c, .int .i64 k, .int .i64 g, .bool op], .int .i64 arg, .int .i64 (-1)] w1 fun e w' => e = outF none ∧ Ext w1 w')) :
    Calls Try.prog 52 #[.agg #[.slice A n c, .int .i64 k, .int .i64 g, .bool op], .int .i64 84, .int .i64 arg] w fun e w' => e = outP (none) ∧ Ext w w' := by
  unfold maxLen at hcm
  have hx0 : Ext w ((w.alloc (.cells #[.slice A n c, .int .i64 k, .int .i64 g, .bool op] 99)).alloc (.cells #[.int .i64 0, .bool false] 101)) := (Ext.alloc _ _).to_alloc _
  have hb2 := place_new w (.slice A n c) (.int .i64 k) (.int .i64 g) (.bool op)
  have hb1 := goer_new w (.slice A n c) (.int .i64 k) (.int .i64 g) (.bool op)
  go_enter Try.func52, Try.ntmps52
  go_wp2_with fail
  refine (H.out _ hx0).mono ?_
  rintro e w1 ⟨he, he1⟩
  rw [outF_none] at he
  subst he
  have hq2 := hb2.ext he1
  have hq1 := hb1.ext he1
  have HB := Lib.hid hq2
  have HE := Lib.hid (hx0.trans he1)
  have c0 := hq2.cell 0
  have c1 := hq2.cell 1
  have f0 := hq2.frozen 0
  have f1 := hq2.frozen 1
  have d0 := hq1.cell 0
  have d1 := hq1.cell 1
  have d2 := hq1.cell 2
  have d3 := hq1.cell 3
  simp only [List.getElem?_toArray, List.getElem?_cons_zero, List.getElem?_cons_succ] at c0 c1 d0 d1 d2 d3
  clear hb2 hb1 hx0 he1 hq1 hq2
  go_wp2_with fail
  all_goals
    obtain ⟨c6, c7, hx, hx1, hx2⟩ := slot_facts HB.out HE.out (by simp)
    refine bodyPost_ret (by simp [results, Try.results52, go_sem, c6, c7]; try rfl) rfl ?_
    refine ⟨rfl, by first | exact hx _ _ | exact HE.out | exact hx1 _ | exact hx2 _ | exact (Ext.alloc _ _).to_alloc _⟩


set_option maxRecDepth 20000 in
set_option maxHeartbeats 2000000 in
theorem fo_84s {l : List Int} {A : Option Addr} {n c : Nat} {k g : Nat} {op : Bool} {w : World} (hnc : n ≤ c) (hcm : c ≤ maxLen) (hn : n ≤ 4096) (hk : k ≤ n) (hg1 : 1 ≤ g) (hg2 : g ≤ 4096) {arg : Int} {j : Nat} (hj : j ≤ 4096) (H : Hid (∀ w1 : World, Ext w w1 → Calls Try.prog 60 #[.agg #[.slice A n c, .int .i64 k, .int .i64 g, .bool op], .int .i64 arg, .int .i64 (-1)] w1 fun e w' => e = outF (some j) ∧ Ext w1 w')) :
    Calls Try.prog 52 #[.agg #[.slice A n c, .int .i64 k, .int .i64 g, .bool op], .int .i64 84, .int .i64 arg] w fun e w' => e = outP (some (j + 1, false)) ∧ Ext w w' := by
  unfold maxLen at hcm
  have hx0 : Ext w ((w.alloc (.cells #[.slice A n c, .int .i64 k, .int .i64 g, .bool op] 99)).alloc (.cells #[.int .i64 0, .bool false] 101)) := (Ext.alloc _ _).to_alloc _
  have hb2 := place_new w (.slice A n c) (.int .i64 k) (.int .i64 g) (.bool op)
  have hb1 := goer_new w (.slice A n c) (.int .i64 k) (.int .i64 g) (.bool op)
  go_enter Try.func52, Try.ntmps52
  go_wp2_with fail
  refine (H.out _ hx0).mono ?_
  rintro e w1 ⟨he, he1⟩
  rw [outF_some] at he
  subst he
  have hq2 := hb2.ext he1
  have hq1 := hb1.ext he1
  have HB := Lib.hid hq2
  have HE := Lib.hid (hx0.trans he1)
  have c0 := hq2.cell 0
  have c1 := hq2.cell 1
  have f0 := hq2.frozen 0
  have f1 := hq2.frozen 1
  have d0 := hq1.cell 0
  have d1 := hq1.cell 1
  have d2 := hq1.cell 2
  have d3 := hq1.cell 3
  simp only [List.getElem?_toArray, List.getElem?_cons_zero, List.getElem?_cons_succ] at c0 c1 d0 d1 d2 d3
  clear hb2 hb1 hx0 he1 hq1 hq2
  go_wp2_with fail
  all_goals
    obtain ⟨c6, c7, hx, hx1, hx2⟩ := slot_facts HB.out HE.out (by simp)
    refine bodyPost_ret (by simp [results, Try.results52, go_sem, c6, c7]; try rfl) rfl ?_
    refine ⟨ret_place (by omega), by first | exact hx _ _ | exact HE.out | exact hx1 _ | exact hx2 _ | exact (Ext.alloc _ _).to_alloc _⟩

end Go.Proofs.Ytmhgndjmcignjaa
