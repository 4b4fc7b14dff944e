/-
  edit.Key in Insert, whatever the key: what it comes to.
-/
import Derived.Test.YtmhgndjmcignjaaZJ13
import Derived.Test.YtmhgndjmcignjaaZJ4

namespace Go.Proofs.Ytmhgndjmcignjaa
open Go.RowKit
set_option linter.unusedVariables false
set_option linter.unusedSimpArgs false

set_option maxRecDepth 20000 in
set_option maxHeartbeats 8000000 in
theorem key_bad {w : World} {A : Option Addr} {n c : Nat} {a k : Int} (hnc : n ≤ c) (hcm : c ≤ maxLen) (hn : n ≤ 200) (ha : a < 0 ∨ (n : Int) < a) :
    Calls Try.prog 14 #[.agg #[.slice A n c, .int .i64 a], .int .i64 1, .int .i64 k] w (KeyNo w) := by
  unfold maxLen at hcm
  have b3 := Lib.hid ((Blk.new w 24 #[.slice A n c, .int .i64 a]).ext (Ext.alloc _ (.cells #[.slice none 0 0, .int .i64 0] 24)))
  have b6 : Hid (Blk ((w.alloc (.cells #[.slice A n c, .int .i64 a] 24)).alloc (.cells #[.slice none 0 0, .int .i64 0] 24)) (w.heap.size + 1) 24 #[.slice none 0 0, .int .i64 0]) := Lib.hid (by
    have := Blk.new (w.alloc (.cells #[.slice A n c, .int .i64 a] 24)) 24 #[.slice none 0 0, .int .i64 0]
    rwa [World.size_alloc] at this)
  have hx0 : Hid (Ext w ((w.alloc (.cells #[.slice A n c, .int .i64 a] 24)).alloc (.cells #[.slice none 0 0, .int .i64 0] 24))) := Lib.hid ((Ext.alloc _ _).to_alloc _)
  have hsz : Hid (((w.alloc (.cells #[.slice A n c, .int .i64 a] 24)).alloc (.cells #[.slice none 0 0, .int .i64 0] 24)).heap.size = w.heap.size + 2) := Lib.hid (by simp)
  have t1 : decide ((200 : Int) < (n : Int)) = false := by simp; omega
  go_enter Try.func14, Try.ntmps14
  go_upto_region 1 with fail
  generalize (w.alloc (.cells #[.slice A n c, .int .i64 a] 24)).alloc (.cells #[.slice none 0 0, .int .i64 0] 24) = W at *
  obtain ⟨c0, c1⟩ := cells2 b3.out
  obtain ⟨d0, d1⟩ := cells2 b6.out
  obtain ⟨f0, f1⟩ := frozen2 b6.out
  have hfin := Lib.hid (st2_blk b6.out (.slice none 0 0) (.int .i64 0))
  have hX := Lib.hid (st2_ext hx0.out (show w.heap.size ≤ w.heap.size + 1 by omega) (.slice none 0 0) (.int .i64 0))
  unfold st2 at hfin hX
  by_cases h0 : a < 0
  case neg =>
    have h1 : (n : Int) < a := by omega
    clear ha
    go_wp2_with fail
    refine bodyPost_ret (v := .tuple #[.agg #[.slice none 0 0, .int .i64 0], .int .i64 1]) ?_ rfl ⟨hX.out, 1, by decide, rfl⟩
    exact results_row_t1 rfl _ _ (w.heap.size + 1) 24 _ _ _ _ rfl rfl hfin.out Try.underlying24 rfl (line_size rfl)
  clear ha
  go_wp2_with fail
  refine bodyPost_ret (v := .tuple #[.agg #[.slice none 0 0, .int .i64 0], .int .i64 1]) ?_ rfl ⟨hX.out, 1, by decide, rfl⟩
  exact results_row_t1 rfl _ _ (w.heap.size + 1) 24 _ _ _ _ rfl rfl hfin.out Try.underlying24 rfl (line_size rfl)

set_option maxRecDepth 20000 in
set_option maxHeartbeats 8000000 in
theorem key_other {w : World} {A : Option Addr} {c a : Nat} {k : Int} {n : Nat} (hnc : n ≤ c) (hcm : c ≤ maxLen) (hn : n ≤ 200) (ha : a ≤ n) (hk : k < 32 ∨ k = 127) (h8 : k ≠ 8) (h27 : k ≠ 127) (h21 : k ≠ 21) (h23 : k ≠ 23) :
    Calls Try.prog 14 #[.agg #[.slice A n c, .int .i64 (a : Int)], .int .i64 1, .int .i64 k] w (KeyNo w) := by
  unfold maxLen at hcm
  have b3 := Lib.hid ((Blk.new w 24 #[.slice A n c, .int .i64 (a : Int)]).ext (Ext.alloc _ (.cells #[.slice none 0 0, .int .i64 0] 24)))
  have b6 : Hid (Blk ((w.alloc (.cells #[.slice A n c, .int .i64 (a : Int)] 24)).alloc (.cells #[.slice none 0 0, .int .i64 0] 24)) (w.heap.size + 1) 24 #[.slice none 0 0, .int .i64 0]) := Lib.hid (by
    have := Blk.new (w.alloc (.cells #[.slice A n c, .int .i64 (a : Int)] 24)) 24 #[.slice none 0 0, .int .i64 0]
    rwa [World.size_alloc] at this)
  have hx0 : Hid (Ext w ((w.alloc (.cells #[.slice A n c, .int .i64 (a : Int)] 24)).alloc (.cells #[.slice none 0 0, .int .i64 0] 24))) := Lib.hid ((Ext.alloc _ _).to_alloc _)
  have hsz : Hid (((w.alloc (.cells #[.slice A n c, .int .i64 (a : Int)] 24)).alloc (.cells #[.slice none 0 0, .int .i64 0] 24)).heap.size = w.heap.size + 2) := Lib.hid (by simp)
  have t1 : decide ((200 : Int) < (n : Int)) = false := by simp; omega
  have t3 : ((a : Int) < 0) = False := by simp
  have t4 : decide (n < a) = false := by simp; omega
  have t5 : decide ((n : Int) < (a : Int)) = false := by simp; omega
  have t6 : ¬ 32 ≤ k := by omega
  have t7 : (k != 8) = true := by simpa using h8
  have t8 : (k != 127) = true := by simpa using h27
  have t9 : (k != 21) = true := by simpa using h21
  have t10 : (k != 23) = true := by simpa using h23
  clear hn h8 h27 h21 h23 hk
  go_enter Try.func14, Try.ntmps14
  go_upto_region 1 with fail
  generalize (w.alloc (.cells #[.slice A n c, .int .i64 (a : Int)] 24)).alloc (.cells #[.slice none 0 0, .int .i64 0] 24) = W at *
  obtain ⟨c0, c1⟩ := cells2 b3.out
  obtain ⟨d0, d1⟩ := cells2 b6.out
  obtain ⟨f0, f1⟩ := frozen2 b6.out
  go_wp2_with fail
  go_quiet (fail)
  have b6q := Lib.hid (Blk.ext b6.out (Ext.drewN W nq))
  have hxq := Lib.hid (hx0.out.to_drewN nq)
  clear d0 d1 f0 f1 c0 c1 b3 b6 hx0 hsz
  revert b6q hxq
  generalize W.drewN nq = V
  intro b6q hxq
  obtain ⟨d0, d1⟩ := cells2 b6q.out
  obtain ⟨f0, f1⟩ := frozen2 b6q.out
  have hfin := Lib.hid (st2_blk b6q.out (.slice none 0 0) (.int .i64 0))
  have hX := Lib.hid (st2_ext hxq.out (show w.heap.size ≤ w.heap.size + 1 by omega) (.slice none 0 0) (.int .i64 0))
  unfold st2 at hfin hX
  go_wp2_with fail
  refine bodyPost_ret (v := .tuple #[.agg #[.slice none 0 0, .int .i64 0], .int .i64 9]) ?_ rfl ⟨hX.out, 9, by decide, rfl⟩
  exact results_row_t1 rfl _ _ (w.heap.size + 1) 24 _ _ _ _ rfl rfl hfin.out Try.underlying24 rfl (line_size rfl)

set_option maxRecDepth 20000 in
set_option maxHeartbeats 8000000 in
theorem key_zero8 {w : World} {A : Option Addr} {c a : Nat} {n : Nat} (hnc : n ≤ c) (hcm : c ≤ maxLen) (hn : n ≤ 200) (ha : a ≤ n) (ha0 : a = 0) :
    Calls Try.prog 14 #[.agg #[.slice A n c, .int .i64 (a : Int)], .int .i64 1, .int .i64 8] w (KeyNo w) := by
  unfold maxLen at hcm
  have b3 := Lib.hid ((Blk.new w 24 #[.slice A n c, .int .i64 (a : Int)]).ext (Ext.alloc _ (.cells #[.slice none 0 0, .int .i64 0] 24)))
  have b6 : Hid (Blk ((w.alloc (.cells #[.slice A n c, .int .i64 (a : Int)] 24)).alloc (.cells #[.slice none 0 0, .int .i64 0] 24)) (w.heap.size + 1) 24 #[.slice none 0 0, .int .i64 0]) := Lib.hid (by
    have := Blk.new (w.alloc (.cells #[.slice A n c, .int .i64 (a : Int)] 24)) 24 #[.slice none 0 0, .int .i64 0]
    rwa [World.size_alloc] at this)
  have hx0 : Hid (Ext w ((w.alloc (.cells #[.slice A n c, .int .i64 (a : Int)] 24)).alloc (.cells #[.slice none 0 0, .int .i64 0] 24))) := Lib.hid ((Ext.alloc _ _).to_alloc _)
  have hsz : Hid (((w.alloc (.cells #[.slice A n c, .int .i64 (a : Int)] 24)).alloc (.cells #[.slice none 0 0, .int .i64 0] 24)).heap.size = w.heap.size + 2) := Lib.hid (by simp)
  have t1 : decide ((200 : Int) < (n : Int)) = false := by simp; omega
  have t3 : ((a : Int) < 0) = False := by simp
  have t4 : decide (n < a) = false := by simp; omega
  have t5 : decide ((n : Int) < (a : Int)) = false := by simp; omega
  have t9 : ((a : Int) == 0) = true := by simp [ha0]
  clear hn ha0
  go_enter Try.func14, Try.ntmps14
  go_upto_region 1 with fail
  generalize (w.alloc (.cells #[.slice A n c, .int .i64 (a : Int)] 24)).alloc (.cells #[.slice none 0 0, .int .i64 0] 24) = W at *
  obtain ⟨c0, c1⟩ := cells2 b3.out
  obtain ⟨d0, d1⟩ := cells2 b6.out
  obtain ⟨f0, f1⟩ := frozen2 b6.out
  go_wp2_with fail
  go_quiet (fail)
  have b3q := Lib.hid (Blk.ext b3.out (Ext.drewN W nq))
  have b6q := Lib.hid (Blk.ext b6.out (Ext.drewN W nq))
  have hxq := Lib.hid (hx0.out.to_drewN nq)
  clear d0 d1 f0 f1 c0 c1 b3 b6 hx0 hsz
  revert b6q hxq b3q
  generalize W.drewN nq = V
  intro b3q b6q hxq
  obtain ⟨c0, c1⟩ := cells2 b3q.out
  obtain ⟨d0, d1⟩ := cells2 b6q.out
  obtain ⟨f0, f1⟩ := frozen2 b6q.out
  have hfin := Lib.hid (st2_blk b6q.out (.slice none 0 0) (.int .i64 0))
  have hX := Lib.hid (st2_ext hxq.out (show w.heap.size ≤ w.heap.size + 1 by omega) (.slice none 0 0) (.int .i64 0))
  unfold st2 at hfin hX
  go_wp2_with fail
  refine bodyPost_ret (v := .tuple #[.agg #[.slice none 0 0, .int .i64 0], .int .i64 5]) ?_ rfl ⟨hX.out, 5, by decide, rfl⟩
  exact results_row_t1 rfl _ _ (w.heap.size + 1) 24 _ _ _ _ rfl rfl hfin.out Try.underlying24 rfl (line_size rfl)

set_option maxRecDepth 20000 in
set_option maxHeartbeats 8000000 in
theorem key_zero127 {w : World} {A : Option Addr} {c a : Nat} {n : Nat} (hnc : n ≤ c) (hcm : c ≤ maxLen) (hn : n ≤ 200) (ha : a ≤ n) (ha0 : a = 0) :
    Calls Try.prog 14 #[.agg #[.slice A n c, .int .i64 (a : Int)], .int .i64 1, .int .i64 127] w (KeyNo w) := by
  unfold maxLen at hcm
  have b3 := Lib.hid ((Blk.new w 24 #[.slice A n c, .int .i64 (a : Int)]).ext (Ext.alloc _ (.cells #[.slice none 0 0, .int .i64 0] 24)))
  have b6 : Hid (Blk ((w.alloc (.cells #[.slice A n c, .int .i64 (a : Int)] 24)).alloc (.cells #[.slice none 0 0, .int .i64 0] 24)) (w.heap.size + 1) 24 #[.slice none 0 0, .int .i64 0]) := Lib.hid (by
    have := Blk.new (w.alloc (.cells #[.slice A n c, .int .i64 (a : Int)] 24)) 24 #[.slice none 0 0, .int .i64 0]
    rwa [World.size_alloc] at this)
  have hx0 : Hid (Ext w ((w.alloc (.cells #[.slice A n c, .int .i64 (a : Int)] 24)).alloc (.cells #[.slice none 0 0, .int .i64 0] 24))) := Lib.hid ((Ext.alloc _ _).to_alloc _)
  have hsz : Hid (((w.alloc (.cells #[.slice A n c, .int .i64 (a : Int)] 24)).alloc (.cells #[.slice none 0 0, .int .i64 0] 24)).heap.size = w.heap.size + 2) := Lib.hid (by simp)
  have t1 : decide ((200 : Int) < (n : Int)) = false := by simp; omega
  have t3 : ((a : Int) < 0) = False := by simp
  have t4 : decide (n < a) = false := by simp; omega
  have t5 : decide ((n : Int) < (a : Int)) = false := by simp; omega
  have t9 : ((a : Int) == 0) = true := by simp [ha0]
  clear hn ha0
  go_enter Try.func14, Try.ntmps14
  go_upto_region 1 with fail
  generalize (w.alloc (.cells #[.slice A n c, .int .i64 (a : Int)] 24)).alloc (.cells #[.slice none 0 0, .int .i64 0] 24) = W at *
  obtain ⟨c0, c1⟩ := cells2 b3.out
  obtain ⟨d0, d1⟩ := cells2 b6.out
  obtain ⟨f0, f1⟩ := frozen2 b6.out
  go_wp2_with fail
  go_quiet (fail)
  have b3q := Lib.hid (Blk.ext b3.out (Ext.drewN W nq))
  have b6q := Lib.hid (Blk.ext b6.out (Ext.drewN W nq))
  have hxq := Lib.hid (hx0.out.to_drewN nq)
  clear d0 d1 f0 f1 c0 c1 b3 b6 hx0 hsz
  revert b6q hxq b3q
  generalize W.drewN nq = V
  intro b3q b6q hxq
  obtain ⟨c0, c1⟩ := cells2 b3q.out
  obtain ⟨d0, d1⟩ := cells2 b6q.out
  obtain ⟨f0, f1⟩ := frozen2 b6q.out
  have hfin := Lib.hid (st2_blk b6q.out (.slice none 0 0) (.int .i64 0))
  have hX := Lib.hid (st2_ext hxq.out (show w.heap.size ≤ w.heap.size + 1 by omega) (.slice none 0 0) (.int .i64 0))
  unfold st2 at hfin hX
  go_wp2_with fail
  refine bodyPost_ret (v := .tuple #[.agg #[.slice none 0 0, .int .i64 0], .int .i64 5]) ?_ rfl ⟨hX.out, 5, by decide, rfl⟩
  exact results_row_t1 rfl _ _ (w.heap.size + 1) 24 _ _ _ _ rfl rfl hfin.out Try.underlying24 rfl (line_size rfl)

set_option maxRecDepth 20000 in
set_option maxHeartbeats 8000000 in
theorem key_zero21 {w : World} {A : Option Addr} {c a : Nat} {n : Nat} (hnc : n ≤ c) (hcm : c ≤ maxLen) (hn : n ≤ 200) (ha : a ≤ n) (ha0 : a = 0) :
    Calls Try.prog 14 #[.agg #[.slice A n c, .int .i64 (a : Int)], .int .i64 1, .int .i64 21] w (KeyNo w) := by
  unfold maxLen at hcm
  have b3 := Lib.hid ((Blk.new w 24 #[.slice A n c, .int .i64 (a : Int)]).ext (Ext.alloc _ (.cells #[.slice none 0 0, .int .i64 0] 24)))
  have b6 : Hid (Blk ((w.alloc (.cells #[.slice A n c, .int .i64 (a : Int)] 24)).alloc (.cells #[.slice none 0 0, .int .i64 0] 24)) (w.heap.size + 1) 24 #[.slice none 0 0, .int .i64 0]) := Lib.hid (by
    have := Blk.new (w.alloc (.cells #[.slice A n c, .int .i64 (a : Int)] 24)) 24 #[.slice none 0 0, .int .i64 0]
    rwa [World.size_alloc] at this)
  have hx0 : Hid (Ext w ((w.alloc (.cells #[.slice A n c, .int .i64 (a : Int)] 24)).alloc (.cells #[.slice none 0 0, .int .i64 0] 24))) := Lib.hid ((Ext.alloc _ _).to_alloc _)
  have hsz : Hid (((w.alloc (.cells #[.slice A n c, .int .i64 (a : Int)] 24)).alloc (.cells #[.slice none 0 0, .int .i64 0] 24)).heap.size = w.heap.size + 2) := Lib.hid (by simp)
  have t1 : decide ((200 : Int) < (n : Int)) = false := by simp; omega
  have t3 : ((a : Int) < 0) = False := by simp
  have t4 : decide (n < a) = false := by simp; omega
  have t5 : decide ((n : Int) < (a : Int)) = false := by simp; omega
  have t9 : ((a : Int) == 0) = true := by simp [ha0]
  clear hn ha0
  go_enter Try.func14, Try.ntmps14
  go_upto_region 1 with fail
  generalize (w.alloc (.cells #[.slice A n c, .int .i64 (a : Int)] 24)).alloc (.cells #[.slice none 0 0, .int .i64 0] 24) = W at *
  obtain ⟨c0, c1⟩ := cells2 b3.out
  obtain ⟨d0, d1⟩ := cells2 b6.out
  obtain ⟨f0, f1⟩ := frozen2 b6.out
  go_wp2_with fail
  go_quiet (fail)
  have b3q := Lib.hid (Blk.ext b3.out (Ext.drewN W nq))
  have b6q := Lib.hid (Blk.ext b6.out (Ext.drewN W nq))
  have hxq := Lib.hid (hx0.out.to_drewN nq)
  clear d0 d1 f0 f1 c0 c1 b3 b6 hx0 hsz
  revert b6q hxq b3q
  generalize W.drewN nq = V
  intro b3q b6q hxq
  obtain ⟨c0, c1⟩ := cells2 b3q.out
  obtain ⟨d0, d1⟩ := cells2 b6q.out
  obtain ⟨f0, f1⟩ := frozen2 b6q.out
  have hfin := Lib.hid (st2_blk b6q.out (.slice none 0 0) (.int .i64 0))
  have hX := Lib.hid (st2_ext hxq.out (show w.heap.size ≤ w.heap.size + 1 by omega) (.slice none 0 0) (.int .i64 0))
  unfold st2 at hfin hX
  go_wp2_with fail
  refine bodyPost_ret (v := .tuple #[.agg #[.slice none 0 0, .int .i64 0], .int .i64 5]) ?_ rfl ⟨hX.out, 5, by decide, rfl⟩
  exact results_row_t1 rfl _ _ (w.heap.size + 1) 24 _ _ _ _ rfl rfl hfin.out Try.underlying24 rfl (line_size rfl)

set_option maxRecDepth 20000 in
set_option maxHeartbeats 8000000 in
theorem key_zero23 {w : World} {A : Option Addr} {c a : Nat} {n : Nat} (hnc : n ≤ c) (hcm : c ≤ maxLen) (hn : n ≤ 200) (ha : a ≤ n) (ha0 : a = 0) :
    Calls Try.prog 14 #[.agg #[.slice A n c, .int .i64 (a : Int)], .int .i64 1, .int .i64 23] w (KeyNo w) := by
  unfold maxLen at hcm
  have b3 := Lib.hid ((Blk.new w 24 #[.slice A n c, .int .i64 (a : Int)]).ext (Ext.alloc _ (.cells #[.slice none 0 0, .int .i64 0] 24)))
  have b6 : Hid (Blk ((w.alloc (.cells #[.slice A n c, .int .i64 (a : Int)] 24)).alloc (.cells #[.slice none 0 0, .int .i64 0] 24)) (w.heap.size + 1) 24 #[.slice none 0 0, .int .i64 0]) := Lib.hid (by
    have := Blk.new (w.alloc (.cells #[.slice A n c, .int .i64 (a : Int)] 24)) 24 #[.slice none 0 0, .int .i64 0]
    rwa [World.size_alloc] at this)
  have hx0 : Hid (Ext w ((w.alloc (.cells #[.slice A n c, .int .i64 (a : Int)] 24)).alloc (.cells #[.slice none 0 0, .int .i64 0] 24))) := Lib.hid ((Ext.alloc _ _).to_alloc _)
  have hsz : Hid (((w.alloc (.cells #[.slice A n c, .int .i64 (a : Int)] 24)).alloc (.cells #[.slice none 0 0, .int .i64 0] 24)).heap.size = w.heap.size + 2) := Lib.hid (by simp)
  have t1 : decide ((200 : Int) < (n : Int)) = false := by simp; omega
  have t3 : ((a : Int) < 0) = False := by simp
  have t4 : decide (n < a) = false := by simp; omega
  have t5 : decide ((n : Int) < (a : Int)) = false := by simp; omega
  have t9 : ((a : Int) == 0) = true := by simp [ha0]
  clear hn ha0
  go_enter Try.func14, Try.ntmps14
  go_upto_region 1 with fail
  generalize (w.alloc (.cells #[.slice A n c, .int .i64 (a : Int)] 24)).alloc (.cells #[.slice none 0 0, .int .i64 0] 24) = W at *
  obtain ⟨c0, c1⟩ := cells2 b3.out
  obtain ⟨d0, d1⟩ := cells2 b6.out
  obtain ⟨f0, f1⟩ := frozen2 b6.out
  go_wp2_with fail
  go_quiet (fail)
  have b3q := Lib.hid (Blk.ext b3.out (Ext.drewN W nq))
  have b6q := Lib.hid (Blk.ext b6.out (Ext.drewN W nq))
  have hxq := Lib.hid (hx0.out.to_drewN nq)
  clear d0 d1 f0 f1 c0 c1 b3 b6 hx0 hsz
  revert b6q hxq b3q
  generalize W.drewN nq = V
  intro b3q b6q hxq
  obtain ⟨c0, c1⟩ := cells2 b3q.out
  obtain ⟨d0, d1⟩ := cells2 b6q.out
  obtain ⟨f0, f1⟩ := frozen2 b6q.out
  have hfin := Lib.hid (st2_blk b6q.out (.slice none 0 0) (.int .i64 0))
  have hX := Lib.hid (st2_ext hxq.out (show w.heap.size ≤ w.heap.size + 1 by omega) (.slice none 0 0) (.int .i64 0))
  unfold st2 at hfin hX
  go_wp2_with fail
  refine bodyPost_ret (v := .tuple #[.agg #[.slice none 0 0, .int .i64 0], .int .i64 5]) ?_ rfl ⟨hX.out, 5, by decide, rfl⟩
  exact results_row_t1 rfl _ _ (w.heap.size + 1) 24 _ _ _ _ rfl rfl hfin.out Try.underlying24 rfl (line_size rfl)

set_option maxRecDepth 20000 in
set_option maxHeartbeats 8000000 in
theorem key_del127 {w : World} {A : Option Addr} {n c a b : Nat} {l : List Int} (hl : Ints w A n c l) (hA : A = none → c = 0) (hn : n ≤ 200) (ha : a ≤ n) (hab : a = b + 1) :
    Calls Try.prog 14 #[.agg #[.slice A n c, .int .i64 (a : Int)], .int .i64 1, .int .i64 127] w (KeyIs (l.take b ++ l.drop a) b w) := by
  have HL := Lib.hid hl
  have hlen := Lib.hid hl.len
  have hnc := hl.ncap
  have hcm := hl.nmax
  unfold maxLen at hcm
  have b3 := Lib.hid ((Blk.new w 24 #[.slice A n c, .int .i64 (a : Int)]).ext (Ext.alloc _ (.cells #[.slice none 0 0, .int .i64 0] 24)))
  have b6 : Hid (Blk ((w.alloc (.cells #[.slice A n c, .int .i64 (a : Int)] 24)).alloc (.cells #[.slice none 0 0, .int .i64 0] 24)) (w.heap.size + 1) 24 #[.slice none 0 0, .int .i64 0]) := Lib.hid (by
    have := Blk.new (w.alloc (.cells #[.slice A n c, .int .i64 (a : Int)] 24)) 24 #[.slice none 0 0, .int .i64 0]
    rwa [World.size_alloc] at this)
  have hx0 : Hid (Ext w ((w.alloc (.cells #[.slice A n c, .int .i64 (a : Int)] 24)).alloc (.cells #[.slice none 0 0, .int .i64 0] 24))) := Lib.hid ((Ext.alloc _ _).to_alloc _)
  have hsz : Hid (((w.alloc (.cells #[.slice A n c, .int .i64 (a : Int)] 24)).alloc (.cells #[.slice none 0 0, .int .i64 0] 24)).heap.size = w.heap.size + 2) := Lib.hid (by simp)
  have t1 : decide ((200 : Int) < (n : Int)) = false := by simp; omega
  have t2 : (a : Int) - 1 = (b : Int) := by omega
  have t7 : ((a : Int) == 0) = false := by simp; omega
  have t3 : ((a : Int) < 0) = False := by simp
  have t4 : decide (n < a) = false := by simp; omega
  have t5 : decide ((n : Int) < (a : Int)) = false := by simp; omega
  have hba : b ≤ c := by omega
  have hbn : b ≤ n := by omega
  clear hl hab
  go_enter Try.func14, Try.ntmps14
  go_upto_region 1 with fail
  generalize (w.alloc (.cells #[.slice A n c, .int .i64 (a : Int)] 24)).alloc (.cells #[.slice none 0 0, .int .i64 0] 24) = W at *
  obtain ⟨c0, c1⟩ := cells2 b3.out
  go_wp2_with fail
  go_quiet (fail)
  have hV0 : Hid (Ext W (W.drewN nq)) := Lib.hid (Ext.drewN W nq)
  have hsV : Hid ((W.drewN nq).heap.size = W.heap.size) := Lib.hid (by simp)
  obtain ⟨e0, e1⟩ := cells2 (b3.out.ext hV0.out)
  generalize W.drewN nq = V at *
  go_wp2_with fail
  have HC : Hid (∀ (wq : World) (S : Option Addr), Ext V wq → Rd wq 1 S 3 3 [.slice A b c, .slice none 0 0, .slice (if c = a then A else Option.map (fun x => x.add a) A) (n - a) (c - a)] → Calls Try.prog 11 #[.slice S 3 3] wq fun e w' => ∃ B n d, e = .returned (.slice B n d) ∧ OwnI w' wq.heap.size B n d ((l.take b ++ l.drop a)) ∧ Ext wq w') := Lib.hid (fun wq S he hS => by
    have hl := (HL.out.ext (hx0.out.trans hV0.out)).ext he
    have h1 := concat_ok hS (Lists.three (hl.front hbn) (Ints.none_ _) (hl.cut ha (Nat.le_refl n))) rfl (by
      have := hlen.out
      simp
      omega)
    refine h1.mono fun e w' ⟨B, m, d, h2, h3, h4⟩ => ⟨B, m, d, h2, ?_, h4⟩
    have : (l.take b :: [] :: [(l.drop a).take (n - a)]).flatten = (l.take b ++ l.drop a) := by
      have hh : (l.drop a).take (n - a) = l.drop a := List.take_of_length_le (by rw [List.length_drop, hlen.out]; exact Nat.le_refl _)
      rw [hh]
      simp
    rw [← this]
    exact h3)
  have b3V := Lib.hid (Blk.ext b3.out hV0.out)
  have b6V := Lib.hid (Blk.ext b6.out hV0.out)
  have hxV := Lib.hid (hx0.out.trans hV0.out)
  clear c0 c1 b3 b6 e0 e1
  obtain ⟨c0, c1⟩ := cells2 b3V.out
  have c0' : V.drew.cell? ⟨w.heap.size, 0, none⟩ = some (.slice A n c) := c0
  have hac : a ≤ c := by omega
  have hsV2 : V.heap.size = W.heap.size := hsV.out
  have hRd1 : Hid (Rd (V.drew.alloc (.cells #[.slice A b c, .slice none 0 0, .slice (if c = a then A else Option.map (fun x => x.add a) A) (n - a) (c - a)] 22)) 1 (some ⟨V.heap.size, 0, none⟩) 3 3 [.slice A b c, .slice none 0 0, .slice (if c = a then A else Option.map (fun x => x.add a) A) (n - a) (c - a)]) := Lib.hid (Rd.litAt V.drew 22 _ rfl rfl (by omega))
  have hRd2 : Hid (Rd ((V.alloc (.cells #[.slice A b c, .slice none 0 0, .slice (if c = a then A else Option.map (fun x => x.add a) A) (n - a) (c - a)] 22)).drew) 1 (some ⟨V.heap.size, 0, none⟩) 3 3 [.slice A b c, .slice none 0 0, .slice (if c = a then A else Option.map (fun x => x.add a) A) (n - a) (c - a)]) := Lib.hid (Rd.ext (Rd.litAt V 22 _ rfl rfl (by omega)) (Ext.drew _))
  have hVz : w.heap.size + 1 < V.heap.size := by rw [hsV.out, hsz.out]; omega
  clear hV0 hsV hsV2 HL
  have hwa : IntKind.i64.wrap (b : Int) = (b : Int) := IntWalk.i64_in _ (by omega)
  go_region_law (first
    | (refine step_callf rfl 11 #[.slice (some ⟨V.heap.size, 0, none⟩) 3 3] rfl (by kernel_rfl) (fun v w' => ∃ B m d, v = .slice B m d ∧ OwnI w' (V.heap.size + 1) B m d ((l.take b ++ l.drop a)) ∧ Ext V w') ((HC.out _ _ ((Ext.drew V).to_alloc _) hRd1.out).mono fun e w' ⟨B, m, d, h1, h2, h3⟩ => ⟨_, h1, B, m, d, rfl, by simpa using h2, ((Ext.drew V).to_alloc _).trans h3⟩) ?_
       rintro v w3 ⟨B, m, d, rfl, ho3, he3⟩
       have hb6 := Blk.ext b6V.out he3
       obtain ⟨d0, d1⟩ := cells2 hb6
       obtain ⟨f0, f1⟩ := frozen2 hb6)
    | (refine step_callf rfl 11 #[.slice (some ⟨V.heap.size, 0, none⟩) 3 3] rfl (by kernel_rfl) (fun v w' => ∃ B m d, v = .slice B m d ∧ OwnI w' (V.heap.size + 1) B m d ((l.take b ++ l.drop a)) ∧ Ext V w') ((HC.out _ _ ((Ext.alloc V _).to_drew) hRd2.out).mono fun e w' ⟨B, m, d, h1, h2, h3⟩ => ⟨_, h1, B, m, d, rfl, by simpa using h2, ((Ext.alloc V _).to_drew).trans h3⟩) ?_
       rintro v w3 ⟨B, m, d, rfl, ho3, he3⟩
       have hb6 := Blk.ext b6V.out he3
       obtain ⟨d0, d1⟩ := cells2 hb6
       obtain ⟨f0, f1⟩ := frozen2 hb6))
  all_goals
    have hfin := Lib.hid (st2_blk hb6 (.slice B m d) (.int .i64 (b : Int)))
    have hX := Lib.hid (st2_ext (hxV.out.trans he3) (show w.heap.size ≤ w.heap.size + 1 by omega) (.slice B m d) (.int .i64 (b : Int)))
    have hO := Lib.hid (st2_own ho3 (show w.heap.size + 1 < V.heap.size + 1 by omega) (.slice B m d) (.int .i64 (b : Int)))
    unfold st2 at hfin hX hO
    clear hb6 d0 d1 f0 f1 he3 ho3
    go_simp
    go_wp2_with fail
    all_goals
      refine bodyPost_ret (v := .tuple #[.agg #[.slice B m d, .int .i64 (b : Int)], .int .i64 0]) ?_ rfl ⟨hX.out, B, m, d, rfl, Own.lower hO.out (by omega)⟩
      exact results_row_t1 rfl _ _ (w.heap.size + 1) 24 _ _ _ _ rfl rfl hfin.out Try.underlying24 rfl (line_size rfl)
set_option maxRecDepth 20000 in
set_option maxHeartbeats 8000000 in
theorem key_del21 {w : World} {A : Option Addr} {n c a : Nat} {l : List Int} (hl : Ints w A n c l) (hA : A = none → c = 0) (hn : n ≤ 200) (ha : a ≤ n) (hab : 0 < a) :
    Calls Try.prog 14 #[.agg #[.slice A n c, .int .i64 (a : Int)], .int .i64 1, .int .i64 21] w (KeyIs (l.take 0 ++ l.drop a) 0 w) := by
  have HL := Lib.hid hl
  have hlen := Lib.hid hl.len
  have hnc := hl.ncap
  have hcm := hl.nmax
  unfold maxLen at hcm
  have b3 := Lib.hid ((Blk.new w 24 #[.slice A n c, .int .i64 (a : Int)]).ext (Ext.alloc _ (.cells #[.slice none 0 0, .int .i64 0] 24)))
  have b6 : Hid (Blk ((w.alloc (.cells #[.slice A n c, .int .i64 (a : Int)] 24)).alloc (.cells #[.slice none 0 0, .int .i64 0] 24)) (w.heap.size + 1) 24 #[.slice none 0 0, .int .i64 0]) := Lib.hid (by
    have := Blk.new (w.alloc (.cells #[.slice A n c, .int .i64 (a : Int)] 24)) 24 #[.slice none 0 0, .int .i64 0]
    rwa [World.size_alloc] at this)
  have hx0 : Hid (Ext w ((w.alloc (.cells #[.slice A n c, .int .i64 (a : Int)] 24)).alloc (.cells #[.slice none 0 0, .int .i64 0] 24))) := Lib.hid ((Ext.alloc _ _).to_alloc _)
  have hsz : Hid (((w.alloc (.cells #[.slice A n c, .int .i64 (a : Int)] 24)).alloc (.cells #[.slice none 0 0, .int .i64 0] 24)).heap.size = w.heap.size + 2) := Lib.hid (by simp)
  have t1 : decide ((200 : Int) < (n : Int)) = false := by simp; omega
  have t7 : ((a : Int) == 0) = false := by simp; omega
  have t3 : ((a : Int) < 0) = False := by simp
  have t4 : decide (n < a) = false := by simp; omega
  have t5 : decide ((n : Int) < (a : Int)) = false := by simp; omega
  have hbn : 0 ≤ n := by omega
  clear hl hab
  go_enter Try.func14, Try.ntmps14
  go_upto_region 1 with fail
  generalize (w.alloc (.cells #[.slice A n c, .int .i64 (a : Int)] 24)).alloc (.cells #[.slice none 0 0, .int .i64 0] 24) = W at *
  obtain ⟨c0, c1⟩ := cells2 b3.out
  go_wp2_with fail
  go_quiet (fail)
  have hV0 : Hid (Ext W (W.drewN nq)) := Lib.hid (Ext.drewN W nq)
  have hsV : Hid ((W.drewN nq).heap.size = W.heap.size) := Lib.hid (by simp)
  obtain ⟨e0, e1⟩ := cells2 (b3.out.ext hV0.out)
  generalize W.drewN nq = V at *
  go_wp2_with fail
  have HC : Hid (∀ (wq : World) (S : Option Addr), Ext V wq → Rd wq 1 S 3 3 [.slice A 0 c, .slice none 0 0, .slice (if c = a then A else Option.map (fun x => x.add a) A) (n - a) (c - a)] → Calls Try.prog 11 #[.slice S 3 3] wq fun e w' => ∃ B n d, e = .returned (.slice B n d) ∧ OwnI w' wq.heap.size B n d ((l.take 0 ++ l.drop a)) ∧ Ext wq w') := Lib.hid (fun wq S he hS => by
    have hl := (HL.out.ext (hx0.out.trans hV0.out)).ext he
    have h1 := concat_ok hS (Lists.three (hl.front hbn) (Ints.none_ _) (hl.cut ha (Nat.le_refl n))) rfl (by
      have := hlen.out
      simp
      omega)
    refine h1.mono fun e w' ⟨B, m, d, h2, h3, h4⟩ => ⟨B, m, d, h2, ?_, h4⟩
    have : (l.take 0 :: [] :: [(l.drop a).take (n - a)]).flatten = (l.take 0 ++ l.drop a) := by
      have hh : (l.drop a).take (n - a) = l.drop a := List.take_of_length_le (by rw [List.length_drop, hlen.out]; exact Nat.le_refl _)
      rw [hh]
      simp
    rw [← this]
    exact h3)
  have b3V := Lib.hid (Blk.ext b3.out hV0.out)
  have b6V := Lib.hid (Blk.ext b6.out hV0.out)
  have hxV := Lib.hid (hx0.out.trans hV0.out)
  clear c0 c1 b3 b6 e0 e1
  obtain ⟨c0, c1⟩ := cells2 b3V.out
  have c0' : V.drew.cell? ⟨w.heap.size, 0, none⟩ = some (.slice A n c) := c0
  have hac : a ≤ c := by omega
  have hsV2 : V.heap.size = W.heap.size := hsV.out
  have hRd1 : Hid (Rd (V.drew.alloc (.cells #[.slice A 0 c, .slice none 0 0, .slice (if c = a then A else Option.map (fun x => x.add a) A) (n - a) (c - a)] 22)) 1 (some ⟨V.heap.size, 0, none⟩) 3 3 [.slice A 0 c, .slice none 0 0, .slice (if c = a then A else Option.map (fun x => x.add a) A) (n - a) (c - a)]) := Lib.hid (Rd.litAt V.drew 22 _ rfl rfl (by omega))
  have hRd2 : Hid (Rd ((V.alloc (.cells #[.slice A 0 c, .slice none 0 0, .slice (if c = a then A else Option.map (fun x => x.add a) A) (n - a) (c - a)] 22)).drew) 1 (some ⟨V.heap.size, 0, none⟩) 3 3 [.slice A 0 c, .slice none 0 0, .slice (if c = a then A else Option.map (fun x => x.add a) A) (n - a) (c - a)]) := Lib.hid (Rd.ext (Rd.litAt V 22 _ rfl rfl (by omega)) (Ext.drew _))
  have hVz : w.heap.size + 1 < V.heap.size := by rw [hsV.out, hsz.out]; omega
  clear hV0 hsV hsV2 HL
  have hwa : IntKind.i64.wrap (0 : Int) = (0 : Int) := IntWalk.i64_in _ (by omega)
  go_region_law (first
    | (refine step_callf rfl 11 #[.slice (some ⟨V.heap.size, 0, none⟩) 3 3] rfl (by kernel_rfl) (fun v w' => ∃ B m d, v = .slice B m d ∧ OwnI w' (V.heap.size + 1) B m d ((l.take 0 ++ l.drop a)) ∧ Ext V w') ((HC.out _ _ ((Ext.drew V).to_alloc _) hRd1.out).mono fun e w' ⟨B, m, d, h1, h2, h3⟩ => ⟨_, h1, B, m, d, rfl, by simpa using h2, ((Ext.drew V).to_alloc _).trans h3⟩) ?_
       rintro v w3 ⟨B, m, d, rfl, ho3, he3⟩
       have hb6 := Blk.ext b6V.out he3
       obtain ⟨d0, d1⟩ := cells2 hb6
       obtain ⟨f0, f1⟩ := frozen2 hb6)
    | (refine step_callf rfl 11 #[.slice (some ⟨V.heap.size, 0, none⟩) 3 3] rfl (by kernel_rfl) (fun v w' => ∃ B m d, v = .slice B m d ∧ OwnI w' (V.heap.size + 1) B m d ((l.take 0 ++ l.drop a)) ∧ Ext V w') ((HC.out _ _ ((Ext.alloc V _).to_drew) hRd2.out).mono fun e w' ⟨B, m, d, h1, h2, h3⟩ => ⟨_, h1, B, m, d, rfl, by simpa using h2, ((Ext.alloc V _).to_drew).trans h3⟩) ?_
       rintro v w3 ⟨B, m, d, rfl, ho3, he3⟩
       have hb6 := Blk.ext b6V.out he3
       obtain ⟨d0, d1⟩ := cells2 hb6
       obtain ⟨f0, f1⟩ := frozen2 hb6))
  all_goals
    have hfin := Lib.hid (st2_blk hb6 (.slice B m d) (.int .i64 (0 : Int)))
    have hX := Lib.hid (st2_ext (hxV.out.trans he3) (show w.heap.size ≤ w.heap.size + 1 by omega) (.slice B m d) (.int .i64 (0 : Int)))
    have hO := Lib.hid (st2_own ho3 (show w.heap.size + 1 < V.heap.size + 1 by omega) (.slice B m d) (.int .i64 (0 : Int)))
    unfold st2 at hfin hX hO
    clear hb6 d0 d1 f0 f1 he3 ho3
    go_simp
    go_wp2_with fail
    all_goals
      refine bodyPost_ret (v := .tuple #[.agg #[.slice B m d, .int .i64 (0 : Int)], .int .i64 0]) ?_ rfl ⟨hX.out, B, m, d, rfl, Own.lower hO.out (by omega)⟩
      exact results_row_t1 rfl _ _ (w.heap.size + 1) 24 _ _ _ _ rfl rfl hfin.out Try.underlying24 rfl (line_size rfl)
set_option maxRecDepth 20000 in
set_option maxHeartbeats 8000000 in
theorem key_del23 {w : World} {A : Option Addr} {n c a b : Nat} {l : List Int} (hl : Ints w A n c l) (hA : A = none → c = 0) (hn : n ≤ 200) (ha : a ≤ n) (hab : 0 < a) (hb : backF l a false = b) :
    Calls Try.prog 14 #[.agg #[.slice A n c, .int .i64 (a : Int)], .int .i64 1, .int .i64 23] w (KeyIs (l.take b ++ l.drop a) b w) := by
  have HL := Lib.hid hl
  have hlen := Lib.hid hl.len
  have hnc := hl.ncap
  have hcm := hl.nmax
  unfold maxLen at hcm
  have b3 := Lib.hid ((Blk.new w 24 #[.slice A n c, .int .i64 (a : Int)]).ext (Ext.alloc _ (.cells #[.slice none 0 0, .int .i64 0] 24)))
  have b6 : Hid (Blk ((w.alloc (.cells #[.slice A n c, .int .i64 (a : Int)] 24)).alloc (.cells #[.slice none 0 0, .int .i64 0] 24)) (w.heap.size + 1) 24 #[.slice none 0 0, .int .i64 0]) := Lib.hid (by
    have := Blk.new (w.alloc (.cells #[.slice A n c, .int .i64 (a : Int)] 24)) 24 #[.slice none 0 0, .int .i64 0]
    rwa [World.size_alloc] at this)
  have hx0 : Hid (Ext w ((w.alloc (.cells #[.slice A n c, .int .i64 (a : Int)] 24)).alloc (.cells #[.slice none 0 0, .int .i64 0] 24))) := Lib.hid ((Ext.alloc _ _).to_alloc _)
  have hsz : Hid (((w.alloc (.cells #[.slice A n c, .int .i64 (a : Int)] 24)).alloc (.cells #[.slice none 0 0, .int .i64 0] 24)).heap.size = w.heap.size + 2) := Lib.hid (by simp)
  have t1 : decide ((200 : Int) < (n : Int)) = false := by simp; omega
  have t7 : ((a : Int) == 0) = false := by simp; omega
  have t3 : ((a : Int) < 0) = False := by simp
  have t4 : decide (n < a) = false := by simp; omega
  have t5 : decide ((n : Int) < (a : Int)) = false := by simp; omega
  have hbn : b ≤ n := by rw [← hb]; have := backF_le (l := l) (k := a) (big := false) (by rw [hlen.out]; exact ha); omega
  have hba : b ≤ c := by omega
  have HBk : Hid (∀ wx, Ext w wx → Calls Try.prog 25 #[.slice A n c, .int .i64 (a : Int), .bool false] wx fun e w' => e = .returned (.tuple #[.int .i64 (b : Int), .int .i64 0]) ∧ Ext wx w') := Lib.hid fun wx he => by
    have h := wback_ok (k := a) (big := false) (hl.ext he) (by omega) ha
    rw [hb] at h
    exact h
  clear hl hab hb
  go_enter Try.func14, Try.ntmps14
  go_upto_region 1 with fail
  generalize (w.alloc (.cells #[.slice A n c, .int .i64 (a : Int)] 24)).alloc (.cells #[.slice none 0 0, .int .i64 0] 24) = W at *
  obtain ⟨c0, c1⟩ := cells2 b3.out
  go_wp2_with fail
  go_quiet (fail)
  have hV0 : Hid (Ext W (W.drewN nq)) := Lib.hid (Ext.drewN W nq)
  have hsV : Hid ((W.drewN nq).heap.size = W.heap.size) := Lib.hid (by simp)
  obtain ⟨e0, e1⟩ := cells2 (b3.out.ext hV0.out)
  generalize W.drewN nq = V0 at *
  go_wp2_with fail
  refine (HBk.out _ (hx0.out.trans hV0.out)).mono ?_
  rintro e V ⟨rfl, hxb⟩
  have hV00 := hV0
  clear hV0
  have hV0 : Hid (Ext W V) := Lib.hid (hV00.out.trans hxb)
  have hsV' : Hid (W.heap.size ≤ V.heap.size) := Lib.hid hV0.out.hsize
  clear hV00 hsV e0 e1
  obtain ⟨e0, e1⟩ := cells2 (b3.out.ext hV0.out)
  clear hxb HBk
  go_wp2_with fail
  have HC : Hid (∀ (wq : World) (S : Option Addr), Ext V wq → Rd wq 1 S 3 3 [.slice A b c, .slice none 0 0, .slice (if c = a then A else Option.map (fun x => x.add a) A) (n - a) (c - a)] → Calls Try.prog 11 #[.slice S 3 3] wq fun e w' => ∃ B n d, e = .returned (.slice B n d) ∧ OwnI w' wq.heap.size B n d ((l.take b ++ l.drop a)) ∧ Ext wq w') := Lib.hid (fun wq S he hS => by
    have hl := (HL.out.ext (hx0.out.trans hV0.out)).ext he
    have h1 := concat_ok hS (Lists.three (hl.front hbn) (Ints.none_ _) (hl.cut ha (Nat.le_refl n))) rfl (by
      have := hlen.out
      simp
      omega)
    refine h1.mono fun e w' ⟨B, m, d, h2, h3, h4⟩ => ⟨B, m, d, h2, ?_, h4⟩
    have : (l.take b :: [] :: [(l.drop a).take (n - a)]).flatten = (l.take b ++ l.drop a) := by
      have hh : (l.drop a).take (n - a) = l.drop a := List.take_of_length_le (by rw [List.length_drop, hlen.out]; exact Nat.le_refl _)
      rw [hh]
      simp
    rw [← this]
    exact h3)
  have b3V := Lib.hid (Blk.ext b3.out hV0.out)
  have b6V := Lib.hid (Blk.ext b6.out hV0.out)
  have hxV := Lib.hid (hx0.out.trans hV0.out)
  clear c0 c1 b3 b6 e0 e1
  obtain ⟨c0, c1⟩ := cells2 b3V.out
  have c0' : V.drew.cell? ⟨w.heap.size, 0, none⟩ = some (.slice A n c) := c0
  have hac : a ≤ c := by omega
  have hRd1 : Hid (Rd (V.drew.alloc (.cells #[.slice A b c, .slice none 0 0, .slice (if c = a then A else Option.map (fun x => x.add a) A) (n - a) (c - a)] 22)) 1 (some ⟨V.heap.size, 0, none⟩) 3 3 [.slice A b c, .slice none 0 0, .slice (if c = a then A else Option.map (fun x => x.add a) A) (n - a) (c - a)]) := Lib.hid (Rd.litAt V.drew 22 _ rfl rfl (by omega))
  have hRd2 : Hid (Rd ((V.alloc (.cells #[.slice A b c, .slice none 0 0, .slice (if c = a then A else Option.map (fun x => x.add a) A) (n - a) (c - a)] 22)).drew) 1 (some ⟨V.heap.size, 0, none⟩) 3 3 [.slice A b c, .slice none 0 0, .slice (if c = a then A else Option.map (fun x => x.add a) A) (n - a) (c - a)]) := Lib.hid (Rd.ext (Rd.litAt V 22 _ rfl rfl (by omega)) (Ext.drew _))
  have hVz : w.heap.size + 1 < V.heap.size := by have := hsV'.out; have := hsz.out; omega
  clear hV0 hsV' HL
  have hwa : IntKind.i64.wrap (b : Int) = (b : Int) := IntWalk.i64_in _ (by omega)
  go_region_law (first
    | (refine step_callf rfl 11 #[.slice (some ⟨V.heap.size, 0, none⟩) 3 3] rfl (by kernel_rfl) (fun v w' => ∃ B m d, v = .slice B m d ∧ OwnI w' (V.heap.size + 1) B m d ((l.take b ++ l.drop a)) ∧ Ext V w') ((HC.out _ _ ((Ext.drew V).to_alloc _) hRd1.out).mono fun e w' ⟨B, m, d, h1, h2, h3⟩ => ⟨_, h1, B, m, d, rfl, by simpa using h2, ((Ext.drew V).to_alloc _).trans h3⟩) ?_
       rintro v w3 ⟨B, m, d, rfl, ho3, he3⟩
       have hb6 := Blk.ext b6V.out he3
       obtain ⟨d0, d1⟩ := cells2 hb6
       obtain ⟨f0, f1⟩ := frozen2 hb6)
    | (refine step_callf rfl 11 #[.slice (some ⟨V.heap.size, 0, none⟩) 3 3] rfl (by kernel_rfl) (fun v w' => ∃ B m d, v = .slice B m d ∧ OwnI w' (V.heap.size + 1) B m d ((l.take b ++ l.drop a)) ∧ Ext V w') ((HC.out _ _ ((Ext.alloc V _).to_drew) hRd2.out).mono fun e w' ⟨B, m, d, h1, h2, h3⟩ => ⟨_, h1, B, m, d, rfl, by simpa using h2, ((Ext.alloc V _).to_drew).trans h3⟩) ?_
       rintro v w3 ⟨B, m, d, rfl, ho3, he3⟩
       have hb6 := Blk.ext b6V.out he3
       obtain ⟨d0, d1⟩ := cells2 hb6
       obtain ⟨f0, f1⟩ := frozen2 hb6))
  all_goals
    have hfin := Lib.hid (st2_blk hb6 (.slice B m d) (.int .i64 (b : Int)))
    have hX := Lib.hid (st2_ext (hxV.out.trans he3) (show w.heap.size ≤ w.heap.size + 1 by omega) (.slice B m d) (.int .i64 (b : Int)))
    have hO := Lib.hid (st2_own ho3 (show w.heap.size + 1 < V.heap.size + 1 by omega) (.slice B m d) (.int .i64 (b : Int)))
    unfold st2 at hfin hX hO
    clear hb6 d0 d1 f0 f1 he3 ho3
    go_simp
    go_wp2_with fail
    all_goals
      refine bodyPost_ret (v := .tuple #[.agg #[.slice B m d, .int .i64 (b : Int)], .int .i64 0]) ?_ rfl ⟨hX.out, B, m, d, rfl, Own.lower hO.out (by omega)⟩
      exact results_row_t1 rfl _ _ (w.heap.size + 1) 24 _ _ _ _ rfl rfl hfin.out Try.underlying24 rfl (line_size rfl)
/-- Key comes to one thing. -/
def KeyOut (m : List Int) (at_ : Int) (w : World) (e : Ending) (w' : World) : Prop :=
  Ext w w' ∧ ∃ B q d er, e = .returned (.tuple #[.agg #[.slice B q d, .int .i64 at_], .int .i64 er]) ∧ OwnI w' w.heap.size B q d m
theorem KeyIs.out' {m : List Int} {a : Nat} {w : World} {e : Ending} {w' : World} (h : KeyIs m a w e w') : KeyOut m (a : Int) w e w' := by
  obtain ⟨h1, B, n, d, h2, h3⟩ := h
  exact ⟨h1, B, n, d, 0, h2, h3⟩
theorem KeyNo.out' {w : World} {e : Ending} {w' : World} (h : KeyNo w e w') : KeyOut [] 0 w e w' := by
  obtain ⟨h1, x, _, h2⟩ := h
  exact ⟨h1, none, 0, 0, x, h2, OwnI.nil _ _⟩
theorem key_fix (l : List Int) (a k : Int) : ∃ m at_, ∀ (w : World) (A : Option Addr) (c : Nat), Ints w A l.length c l → (A = none → c = 0) →
    Calls Try.prog 14 #[.agg #[.slice A l.length c, .int .i64 a], .int .i64 1, .int .i64 k] w (KeyOut m at_ w) := by
  obtain ⟨n, hn⟩ : ∃ n, l.length = n := ⟨_, rfl⟩
  rw [hn]
  by_cases h1 : 200 < n
  · exact ⟨[], 0, fun w A c hl _ => (key_large hl.ncap hl.nmax h1).mono fun e w' h => h.out'⟩
  by_cases h2 : a < 0 ∨ (n : Int) < a
  · exact ⟨[], 0, fun w A c hl _ => (key_bad hl.ncap hl.nmax (by omega) h2).mono fun e w' h => h.out'⟩
  obtain ⟨b, rfl⟩ : ∃ b : Nat, a = b := ⟨a.toNat, by omega⟩
  by_cases h3 : 32 ≤ k ∧ k ≠ 127
  · by_cases h4 : n = 200
    · exact ⟨[], 0, fun w A c hl _ => (key_full hl.ncap hl.nmax h4 (by omega) h3.1 h3.2).mono fun e w' h => h.out'⟩
    · exact ⟨_, _, fun w A c hl hA => (key_ins hl hA (by omega) (by omega) h3.1 h3.2).mono fun e w' h => h.out'⟩
  by_cases h8 : k = 8
  · subst h8
    by_cases h0 : b = 0
    · exact ⟨[], 0, fun w A c hl _ => (key_zero8 hl.ncap hl.nmax (by omega) (by omega) h0).mono fun e w' h => h.out'⟩
    · exact ⟨_, _, fun w A c hl hA => (key_del (b := b - 1) hl hA (by omega) (by omega) (by omega)).mono fun e w' h => h.out'⟩
  by_cases h27 : k = 127
  · subst h27
    by_cases h0 : b = 0
    · exact ⟨[], 0, fun w A c hl _ => (key_zero127 hl.ncap hl.nmax (by omega) (by omega) h0).mono fun e w' h => h.out'⟩
    · exact ⟨_, _, fun w A c hl hA => (key_del127 (b := b - 1) hl hA (by omega) (by omega) (by omega)).mono fun e w' h => h.out'⟩
  by_cases h21 : k = 21
  · subst h21
    by_cases h0 : b = 0
    · exact ⟨[], 0, fun w A c hl _ => (key_zero21 hl.ncap hl.nmax (by omega) (by omega) h0).mono fun e w' h => h.out'⟩
    · exact ⟨_, _, fun w A c hl hA => (key_del21 hl hA (by omega) (by omega) (by omega)).mono fun e w' h => h.out'⟩
  by_cases h23 : k = 23
  · subst h23
    by_cases h0 : b = 0
    · exact ⟨[], 0, fun w A c hl _ => (key_zero23 hl.ncap hl.nmax (by omega) (by omega) h0).mono fun e w' h => h.out'⟩
    · exact ⟨_, _, fun w A c hl hA => (key_del23 (b := backF l b false) hl hA (by omega) (by omega) (by omega) rfl).mono fun e w' h => h.out'⟩
  · exact ⟨[], 0, fun w A c hl _ => (key_other hl.ncap hl.nmax (by omega) (by omega) (by omega) h8 h27 h21 h23).mono fun e w' h => h.out'⟩
end Go.Proofs.Ytmhgndjmcignjaa
