/-
  The walk of keys.Take.
-/
import Derived.Test.YtpgffhmcangllaaKeyU
namespace Go.Proofs.Ytpgffhmcangllaa
open Go.RowKit
set_option linter.unusedVariables false
set_option linter.unusedSimpArgs false

set_option maxRecDepth 20000 in
set_option maxHeartbeats 8000000 in
theorem take_low {f r o s wt k : Int} (hk : k < 32) (w : World) (h : chkB ⟨f, r, o, s, wt⟩ = true) : Calls Try.prog 10 #[ptV ⟨f, r, o, s, wt⟩, .int .i64 k] w fun e w' => e = .returned (tkV wrongT) ∧ Ext w w' := by
  obtain ⟨hb0, hb1, hb2, hx⟩ := three (w := w) (.int .i64 f) (.int .i64 r) (.int .i64 o) (.int .i64 s) (.int .i64 wt) (.int .i64 0) (.int .i64 0) (.int .i64 0) (.int .i64 0) (.int .i64 0) (.int .i64 0) (.int .i64 0) (.int .i64 0) (.int .i64 0) (.int .i64 0)
  have HCk : Hid (∀ wq : World, _) := Lib.hid fun (wq : World) => check_ok wq h
  unfold ptV at HCk
  simp only at HCk
  clear h
  unfold ptV
  simp only
  go_enter Try.func10, Try.ntmps10
  go_wp2_with fail
  refine (HCk.out _).mono ?_
  rintro e w1 ⟨rfl, he1⟩
  have HB0 := Lib.hid (hb0.ext he1)
  have HB1 := Lib.hid (hb1.ext he1)
  have HB2 := Lib.hid (hb2.ext he1)
  have HEW := Lib.hid (hx.trans he1)
  obtain ⟨⟨q0, q1, q2, q3, q4⟩, ⟨r0, r1, r2, r3, r4⟩⟩ := HB0.out.five
  clear hb0 hb1 hb2 hx HCk he1
  have hB1 := set5_other (.int .i64 0) (.int .i64 0) (.int .i64 0) (.int .i64 0) (.int .i64 0) (set5 (.int .i64 0) (.int .i64 0) (.int .i64 0) (.int .i64 0) (.int .i64 0) HB1.out) (show w.heap.size + 1 + 1 ≠ w.heap.size + 1 by omega)
  have hB2 := set5 (.int .i64 0) (.int .i64 0) (.int .i64 0) (.int .i64 0) (.int .i64 0) (set5_other (.int .i64 0) (.int .i64 0) (.int .i64 0) (.int .i64 0) (.int .i64 0) HB2.out (show w.heap.size + 1 ≠ w.heap.size + 1 + 1 by omega))
  have hend := set5_ext (.int .i64 0) (.int .i64 0) (.int .i64 0) (.int .i64 0) (.int .i64 0) (set5_ext (.int .i64 0) (.int .i64 0) (.int .i64 0) (.int .i64 0) (.int .i64 0) HEW.out (Nat.le_succ w.heap.size)) (show w.heap.size ≤ w.heap.size + 1 + 1 by omega)
  obtain ⟨⟨e0, e1, e2, e3, e4⟩, _⟩ := hB1.five
  obtain ⟨⟨d0, d1, d2, d3, d4⟩, _⟩ := hB2.five
  obtain ⟨⟨c0, c1, c2, c3, c4⟩, ⟨f0, f1, f2, f3, f4⟩⟩ := Blk.five HB1.out
  obtain ⟨⟨x0, x1, x2, x3, x4⟩, ⟨y0, y1, y2, y3, y4⟩⟩ := Blk.five HB2.out
  clear hB1 hB2
  clear q0 q1 q2 q3 q4 r0 r1 r2 r3 r4
  go_wp2_with fail
  refine bodyPost_ret (by simp [results, Try.results10, go_sem, e0, e1, e2, e3, e4, d0, d1, d2, d3, d4]; try rfl) rfl ?_
  exact ⟨rfl, hend⟩
set_option maxRecDepth 20000 in
set_option maxHeartbeats 8000000 in
theorem take_127 {f r o s wt : Int} (w : World) (h : chkB ⟨f, r, o, s, wt⟩ = true) : Calls Try.prog 10 #[ptV ⟨f, r, o, s, wt⟩, .int .i64 127] w fun e w' => e = .returned (tkV wrongT) ∧ Ext w w' := by
  obtain ⟨hb0, hb1, hb2, hx⟩ := three (w := w) (.int .i64 f) (.int .i64 r) (.int .i64 o) (.int .i64 s) (.int .i64 wt) (.int .i64 0) (.int .i64 0) (.int .i64 0) (.int .i64 0) (.int .i64 0) (.int .i64 0) (.int .i64 0) (.int .i64 0) (.int .i64 0) (.int .i64 0)
  have HCk : Hid (∀ wq : World, _) := Lib.hid fun (wq : World) => check_ok wq h
  unfold ptV at HCk
  simp only at HCk
  clear h
  unfold ptV
  simp only
  go_enter Try.func10, Try.ntmps10
  go_wp2_with fail
  refine (HCk.out _).mono ?_
  rintro e w1 ⟨rfl, he1⟩
  have HB0 := Lib.hid (hb0.ext he1)
  have HB1 := Lib.hid (hb1.ext he1)
  have HB2 := Lib.hid (hb2.ext he1)
  have HEW := Lib.hid (hx.trans he1)
  obtain ⟨⟨q0, q1, q2, q3, q4⟩, ⟨r0, r1, r2, r3, r4⟩⟩ := HB0.out.five
  clear hb0 hb1 hb2 hx HCk he1
  have hB1 := set5_other (.int .i64 0) (.int .i64 0) (.int .i64 0) (.int .i64 0) (.int .i64 0) (set5 (.int .i64 0) (.int .i64 0) (.int .i64 0) (.int .i64 0) (.int .i64 0) HB1.out) (show w.heap.size + 1 + 1 ≠ w.heap.size + 1 by omega)
  have hB2 := set5 (.int .i64 0) (.int .i64 0) (.int .i64 0) (.int .i64 0) (.int .i64 0) (set5_other (.int .i64 0) (.int .i64 0) (.int .i64 0) (.int .i64 0) (.int .i64 0) HB2.out (show w.heap.size + 1 ≠ w.heap.size + 1 + 1 by omega))
  have hend := set5_ext (.int .i64 0) (.int .i64 0) (.int .i64 0) (.int .i64 0) (.int .i64 0) (set5_ext (.int .i64 0) (.int .i64 0) (.int .i64 0) (.int .i64 0) (.int .i64 0) HEW.out (Nat.le_succ w.heap.size)) (show w.heap.size ≤ w.heap.size + 1 + 1 by omega)
  obtain ⟨⟨e0, e1, e2, e3, e4⟩, _⟩ := hB1.five
  obtain ⟨⟨d0, d1, d2, d3, d4⟩, _⟩ := hB2.five
  obtain ⟨⟨c0, c1, c2, c3, c4⟩, ⟨f0, f1, f2, f3, f4⟩⟩ := Blk.five HB1.out
  obtain ⟨⟨x0, x1, x2, x3, x4⟩, ⟨y0, y1, y2, y3, y4⟩⟩ := Blk.five HB2.out
  clear hB1 hB2
  clear q0 q1 q2 q3 q4 r0 r1 r2 r3 r4
  go_wp2_with fail
  refine bodyPost_ret (by simp [results, Try.results10, go_sem, e0, e1, e2, e3, e4, d0, d1, d2, d3, d4]; try rfl) rfl ?_
  exact ⟨rfl, hend⟩
set_option maxRecDepth 20000 in
set_option maxHeartbeats 8000000 in
theorem take_await {f r o s wt k : Int} (h32 : ¬ k < 32) (h127 : k ≠ 127) (hw : wt ≠ 0) (w : World) (h : chkB ⟨f, r, o, s, wt⟩ = true) : Calls Try.prog 10 #[ptV ⟨f, r, o, s, wt⟩, .int .i64 k] w fun e w' => e = .returned (tkV (awaitF ⟨f, r, o, s, wt⟩ k)) ∧ Ext w w' := by
  have HA : Hid (∀ wq : World, _) := Lib.hid fun (wq : World) => awaited_ok (k := k) wq h hw
  unfold ptV at HA
  simp only at HA
  obtain ⟨hb0, hb1, hb2, hx⟩ := three (w := w) (.int .i64 f) (.int .i64 r) (.int .i64 o) (.int .i64 s) (.int .i64 wt) (.int .i64 0) (.int .i64 0) (.int .i64 0) (.int .i64 0) (.int .i64 0) (.int .i64 0) (.int .i64 0) (.int .i64 0) (.int .i64 0) (.int .i64 0)
  have HCk : Hid (∀ wq : World, _) := Lib.hid fun (wq : World) => check_ok wq h
  unfold ptV at HCk
  simp only at HCk
  have hwb : (wt != 0) = true := by simpa using hw
  rcases ht : awaitF ⟨f, r, o, s, wt⟩ k with ⟨⟨tf, tr, to, ts, tw⟩, ⟨u0, u1, u2, u3, u4⟩, th⟩
  rw [ht] at HA
  unfold tkV ptV cmV at HA
  simp only at HA
  clear ht hw
  have kb : (k == 127) = false := by simpa using h127
  clear h
  unfold tkV ptV cmV
  simp only
  go_enter Try.func10, Try.ntmps10
  go_wp2_with fail
  refine (HCk.out _).mono ?_
  rintro e w1 ⟨rfl, he1⟩
  have HB0 := Lib.hid (hb0.ext he1)
  have HB1 := Lib.hid (hb1.ext he1)
  have HB2 := Lib.hid (hb2.ext he1)
  have HEW := Lib.hid (hx.trans he1)
  obtain ⟨⟨q0, q1, q2, q3, q4⟩, ⟨r0, r1, r2, r3, r4⟩⟩ := HB0.out.five
  clear hb0 hb1 hb2 hx HCk he1
  go_wp2_with fail
  refine (HA.out _).mono ?_
  rintro e w2 ⟨rfl, he2⟩
  have HD1 := Lib.hid (HB1.out.ext he2)
  have HD2 := Lib.hid (HB2.out.ext he2)
  have HEX := Lib.hid (HEW.out.trans he2)
  clear HA HB0 HB1 HB2 HEW he2
  have hB1 := set5_other (.int .i64 u0) (.int .i64 u1) (.int .i64 u2) (.int .i64 u3) (.int .i64 u4) (set5 (.int .i64 tf) (.int .i64 tr) (.int .i64 to) (.int .i64 ts) (.int .i64 tw) HD1.out) (show w.heap.size + 1 + 1 ≠ w.heap.size + 1 by omega)
  have hB2 := set5 (.int .i64 u0) (.int .i64 u1) (.int .i64 u2) (.int .i64 u3) (.int .i64 u4) (set5_other (.int .i64 tf) (.int .i64 tr) (.int .i64 to) (.int .i64 ts) (.int .i64 tw) HD2.out (show w.heap.size + 1 ≠ w.heap.size + 1 + 1 by omega))
  have hend := set5_ext (.int .i64 u0) (.int .i64 u1) (.int .i64 u2) (.int .i64 u3) (.int .i64 u4) (set5_ext (.int .i64 tf) (.int .i64 tr) (.int .i64 to) (.int .i64 ts) (.int .i64 tw) HEX.out (Nat.le_succ w.heap.size)) (show w.heap.size ≤ w.heap.size + 1 + 1 by omega)
  obtain ⟨⟨e0, e1, e2, e3, e4⟩, _⟩ := hB1.five
  obtain ⟨⟨d0, d1, d2, d3, d4⟩, _⟩ := hB2.five
  obtain ⟨⟨c0, c1, c2, c3, c4⟩, ⟨f0, f1, f2, f3, f4⟩⟩ := Blk.five HD1.out
  obtain ⟨⟨x0, x1, x2, x3, x4⟩, ⟨y0, y1, y2, y3, y4⟩⟩ := Blk.five HD2.out
  clear hB1 hB2
  clear q0 q1 q2 q3 q4 r0 r1 r2 r3 r4
  go_wp2_with fail
  refine bodyPost_ret (by simp [results, Try.results10, go_sem, e0, e1, e2, e3, e4, d0, d1, d2, d3, d4]; try rfl) rfl ?_
  exact ⟨rfl, hend⟩
set_option maxRecDepth 20000 in
set_option maxHeartbeats 8000000 in
theorem take_none {f r o s k : Int} (h32 : ¬ k < 32) (h127 : k ≠ 127) (hz : kindF ⟨f, r, o, s, 0⟩ k = 0) (w : World) (h : chkB ⟨f, r, o, s, 0⟩ = true) : Calls Try.prog 10 #[ptV ⟨f, r, o, s, 0⟩, .int .i64 k] w fun e w' => e = .returned (tkV wrongT) ∧ Ext w w' := by
  obtain ⟨hb0, hb1, hb2, hx⟩ := three (w := w) (.int .i64 f) (.int .i64 r) (.int .i64 o) (.int .i64 s) (.int .i64 0) (.int .i64 0) (.int .i64 0) (.int .i64 0) (.int .i64 0) (.int .i64 0) (.int .i64 0) (.int .i64 0) (.int .i64 0) (.int .i64 0) (.int .i64 0)
  have HCk : Hid (∀ wq : World, _) := Lib.hid fun (wq : World) => check_ok wq h
  unfold ptV at HCk
  simp only at HCk
  have HK : Hid (∀ wq : World, _) := Lib.hid fun (wq : World) => kind_ok ⟨f, r, o, s, 0⟩ k wq
  rw [hz] at HK
  unfold ptV at HK
  simp only at HK
  have kb : (k == 127) = false := by simpa using h127
  clear hz
  clear h
  unfold ptV
  simp only
  go_enter Try.func10, Try.ntmps10
  go_wp2_with fail
  refine (HCk.out _).mono ?_
  rintro e w1 ⟨rfl, he1⟩
  have HB0 := Lib.hid (hb0.ext he1)
  have HB1 := Lib.hid (hb1.ext he1)
  have HB2 := Lib.hid (hb2.ext he1)
  have HEW := Lib.hid (hx.trans he1)
  obtain ⟨⟨q0, q1, q2, q3, q4⟩, ⟨r0, r1, r2, r3, r4⟩⟩ := HB0.out.five
  clear hb0 hb1 hb2 hx HCk he1
  go_wp2_with fail
  refine (HK.out _).mono ?_
  rintro e w2 ⟨rfl, he2⟩
  have HD0 := Lib.hid (HB0.out.ext he2)
  have HD1 := Lib.hid (HB1.out.ext he2)
  have HD2 := Lib.hid (HB2.out.ext he2)
  have HEX := Lib.hid (HEW.out.trans he2)
  clear HK HB0 HB1 HB2 HEW he2 q0 q1 q2 q3 q4 r0 r1 r2 r3 r4
  obtain ⟨⟨q0, q1, q2, q3, q4⟩, ⟨r0, r1, r2, r3, r4⟩⟩ := HD0.out.five
  have hB1 := set5_other (.int .i64 0) (.int .i64 0) (.int .i64 0) (.int .i64 0) (.int .i64 0) (set5 (.int .i64 0) (.int .i64 0) (.int .i64 0) (.int .i64 0) (.int .i64 0) HD1.out) (show w.heap.size + 1 + 1 ≠ w.heap.size + 1 by omega)
  have hB2 := set5 (.int .i64 0) (.int .i64 0) (.int .i64 0) (.int .i64 0) (.int .i64 0) (set5_other (.int .i64 0) (.int .i64 0) (.int .i64 0) (.int .i64 0) (.int .i64 0) HD2.out (show w.heap.size + 1 ≠ w.heap.size + 1 + 1 by omega))
  have hend := set5_ext (.int .i64 0) (.int .i64 0) (.int .i64 0) (.int .i64 0) (.int .i64 0) (set5_ext (.int .i64 0) (.int .i64 0) (.int .i64 0) (.int .i64 0) (.int .i64 0) HEX.out (Nat.le_succ w.heap.size)) (show w.heap.size ≤ w.heap.size + 1 + 1 by omega)
  obtain ⟨⟨e0, e1, e2, e3, e4⟩, _⟩ := hB1.five
  obtain ⟨⟨d0, d1, d2, d3, d4⟩, _⟩ := hB2.five
  obtain ⟨⟨c0, c1, c2, c3, c4⟩, ⟨f0, f1, f2, f3, f4⟩⟩ := Blk.five HD1.out
  obtain ⟨⟨x0, x1, x2, x3, x4⟩, ⟨y0, y1, y2, y3, y4⟩⟩ := Blk.five HD2.out
  clear hB1 hB2
  clear q0 q1 q2 q3 q4 r0 r1 r2 r3 r4
  go_wp2_with fail
  refine bodyPost_ret (by simp [results, Try.results10, go_sem, e0, e1, e2, e3, e4, d0, d1, d2, d3, d4]; try rfl) rfl ?_
  exact ⟨rfl, hend⟩
end Go.Proofs.Ytpgffhmcangllaa
