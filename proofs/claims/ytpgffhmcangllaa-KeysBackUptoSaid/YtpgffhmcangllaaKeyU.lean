/-
  The walks of keys.awaited and Take.
-/
import Derived.Test.YtpgffhmcangllaaKeyT
namespace Go.Proofs.Ytpgffhmcangllaa
open Go.RowKit
set_option linter.unusedVariables false
set_option linter.unusedSimpArgs false

def tkV (t : Tk) : Value := .tuple #[ptV t.p, cmV t.c, .int .i64 t.how, .int .i64 0]
/-- The three blocks of a call that tells a part and a command. -/
theorem three {w : World} (a0 a1 a2 a3 a4 b0 b1 b2 b3 b4 c0 c1 c2 c3 c4 : Value) :
    Blk (((w.alloc (.cells #[a0, a1, a2, a3, a4] 25)).alloc (.cells #[b0, b1, b2, b3, b4] 25)).alloc (.cells #[c0, c1, c2, c3, c4] 32)) w.heap.size 25 #[a0, a1, a2, a3, a4] ∧ Blk (((w.alloc (.cells #[a0, a1, a2, a3, a4] 25)).alloc (.cells #[b0, b1, b2, b3, b4] 25)).alloc (.cells #[c0, c1, c2, c3, c4] 32)) (w.heap.size + 1) 25 #[b0, b1, b2, b3, b4] ∧ Blk (((w.alloc (.cells #[a0, a1, a2, a3, a4] 25)).alloc (.cells #[b0, b1, b2, b3, b4] 25)).alloc (.cells #[c0, c1, c2, c3, c4] 32)) (w.heap.size + 1 + 1) 32 #[c0, c1, c2, c3, c4] ∧ Ext w (((w.alloc (.cells #[a0, a1, a2, a3, a4] 25)).alloc (.cells #[b0, b1, b2, b3, b4] 25)).alloc (.cells #[c0, c1, c2, c3, c4] 32)) := by
  have h0 := ((Blk.new w 25 #[a0, a1, a2, a3, a4]).ext (Ext.alloc _ (.cells #[b0, b1, b2, b3, b4] 25))).ext (Ext.alloc _ (.cells #[c0, c1, c2, c3, c4] 32))
  have h1 := (Blk.new (w.alloc (.cells #[a0, a1, a2, a3, a4] 25)) 25 #[b0, b1, b2, b3, b4]).ext (Ext.alloc _ (.cells #[c0, c1, c2, c3, c4] 32))
  have h2 := Blk.new ((w.alloc (.cells #[a0, a1, a2, a3, a4] 25)).alloc (.cells #[b0, b1, b2, b3, b4] 25)) 32 #[c0, c1, c2, c3, c4]
  rw [show (w.alloc (.cells #[a0, a1, a2, a3, a4] 25)).heap.size = w.heap.size + 1 by simp] at h1
  rw [show ((w.alloc (.cells #[a0, a1, a2, a3, a4] 25)).alloc (.cells #[b0, b1, b2, b3, b4] 25)).heap.size = w.heap.size + 1 + 1 by simp] at h2
  exact ⟨h0, h1, h2, ((Ext.alloc _ _).to_alloc _).to_alloc _⟩
set_option maxRecDepth 20000 in
set_option maxHeartbeats 8000000 in
theorem await_quote {f r o s k : Int} (hl : letB k = true) (w : World) : Calls Try.prog 15 #[ptV ⟨f, r, o, s, 34⟩, .int .i64 k] w fun e w' => e = .returned (tkV ⟨⟨f, k, o, s, 0⟩, Cm.zero, 1⟩) ∧ Ext w w' := by
  have HL := Lib.hid (letter_ok k)
  rw [hl] at HL
  clear hl
  unfold ptV
  simp only
  go_enter Try.func15, Try.ntmps15
  go_wp2_with (go_at_call 19; refine (HL.out _).mono ?_; rintro e w' ⟨rfl, rfl⟩)
  obtain ⟨_, hB1, hB2, hend⟩ := three (w := w) (.int .i64 f) (.int .i64 k) (.int .i64 o) (.int .i64 s) (.int .i64 0) (.int .i64 f) (.int .i64 k) (.int .i64 o) (.int .i64 s) (.int .i64 0) (.int .i64 0) (.int .i64 0) (.int .i64 0) (.int .i64 0) (.int .i64 0)
  obtain ⟨⟨e0, e1, e2, e3, e4⟩, _⟩ := hB1.five
  obtain ⟨⟨d0, d1, d2, d3, d4⟩, _⟩ := hB2.five
  refine bodyPost_ret (by simp [results, Try.results15, go_sem, e0, e1, e2, e3, e4, d0, d1, d2, d3, d4]; try rfl) rfl ?_
  exact ⟨rfl, hend⟩
set_option maxRecDepth 20000 in
set_option maxHeartbeats 8000000 in
theorem await_bad {f r o s k : Int} (hl : letB k = false) (w : World) : Calls Try.prog 15 #[ptV ⟨f, r, o, s, 34⟩, .int .i64 k] w fun e w' => e = .returned (tkV wrongT) ∧ Ext w w' := by
  have HL := Lib.hid (letter_ok k)
  rw [hl] at HL
  clear hl
  unfold ptV
  simp only
  go_enter Try.func15, Try.ntmps15
  go_wp2_with (go_at_call 19; refine (HL.out _).mono ?_; rintro e w' ⟨rfl, rfl⟩)
  obtain ⟨_, hB1, hB2, hend⟩ := three (w := w) (.int .i64 f) (.int .i64 r) (.int .i64 o) (.int .i64 s) (.int .i64 34) (.int .i64 0) (.int .i64 0) (.int .i64 0) (.int .i64 0) (.int .i64 0) (.int .i64 0) (.int .i64 0) (.int .i64 0) (.int .i64 0) (.int .i64 0)
  obtain ⟨⟨e0, e1, e2, e3, e4⟩, _⟩ := hB1.five
  obtain ⟨⟨d0, d1, d2, d3, d4⟩, _⟩ := hB2.five
  refine bodyPost_ret (by simp [results, Try.results15, go_sem, e0, e1, e2, e3, e4, d0, d1, d2, d3, d4]; try rfl) rfl ?_
  exact ⟨rfl, hend⟩
set_option maxRecDepth 20000 in
set_option maxHeartbeats 8000000 in
theorem await_102 {f r o s k : Int} (hf : 0 ≤ f ∧ f ≤ 999) (hs : 0 ≤ s ∧ s ≤ 999) (w : World) : Calls Try.prog 15 #[ptV ⟨f, r, o, s, 102⟩, .int .i64 k] w fun e w' => e = .returned (tkV ⟨Pt.zero, cmdF ⟨f, r, o, s, 102⟩ 102 k, 2⟩) ∧ Ext w w' := by
  obtain ⟨hb0, hb1, hb2, hx⟩ := three (w := w) (.int .i64 f) (.int .i64 r) (.int .i64 o) (.int .i64 s) (.int .i64 102) (.int .i64 0) (.int .i64 0) (.int .i64 0) (.int .i64 0) (.int .i64 0) (.int .i64 0) (.int .i64 0) (.int .i64 0) (.int .i64 0) (.int .i64 0)
  have HC : Hid (∀ wq : World, _) := Lib.hid fun (wq : World) => command_ok ⟨f, r, o, s, 102⟩ 102 k wq hf hs
  unfold ptV cmV at HC
  simp only at HC
  unfold cmdF at HC
  simp only at HC
  obtain ⟨tot, ht⟩ : ∃ tot, totF ⟨f, r, o, s, 102⟩ = tot := ⟨_, rfl⟩
  rw [ht] at HC
  have HT := Lib.hid ht
  clear ht hf hs
  unfold ptV
  simp only
  go_enter Try.func15, Try.ntmps15
  go_wp2_with fail
  refine (HC.out _).mono ?_
  rintro e w1 ⟨rfl, he1⟩
  have HB1 := hb1.ext he1
  have HB2 := hb2.ext he1
  have heW := hx.trans he1
  clear hb0 hb1 hb2 hx
  have hB1 := set5_other (.int .i64 tot) (.int .i64 r) (.int .i64 o) (.int .i64 102) (.int .i64 k) (set5 (.int .i64 0) (.int .i64 0) (.int .i64 0) (.int .i64 0) (.int .i64 0) HB1) (show w.heap.size + 1 + 1 ≠ w.heap.size + 1 by omega)
  have hB2 := set5 (.int .i64 tot) (.int .i64 r) (.int .i64 o) (.int .i64 102) (.int .i64 k) (set5_other (.int .i64 0) (.int .i64 0) (.int .i64 0) (.int .i64 0) (.int .i64 0) HB2 (show w.heap.size + 1 ≠ w.heap.size + 1 + 1 by omega))
  have hend := set5_ext (.int .i64 tot) (.int .i64 r) (.int .i64 o) (.int .i64 102) (.int .i64 k) (set5_ext (.int .i64 0) (.int .i64 0) (.int .i64 0) (.int .i64 0) (.int .i64 0) heW (Nat.le_succ w.heap.size)) (show w.heap.size ≤ w.heap.size + 1 + 1 by omega)
  obtain ⟨⟨e0, e1, e2, e3, e4⟩, _⟩ := hB1.five
  obtain ⟨⟨d0, d1, d2, d3, d4⟩, _⟩ := hB2.five
  obtain ⟨⟨c0, c1, c2, c3, c4⟩, ⟨f0, f1, f2, f3, f4⟩⟩ := Blk.five HB1
  obtain ⟨⟨x0, x1, x2, x3, x4⟩, ⟨y0, y1, y2, y3, y4⟩⟩ := Blk.five HB2
  clear hB1 hB2
  clear HB1 HB2 heW HC he1
  go_wp2_with fail
  refine bodyPost_ret (by simp [results, Try.results15, go_sem, e0, e1, e2, e3, e4, d0, d1, d2, d3, d4]; try rfl) rfl ?_
  exact ⟨by rw [← HT.out]; rfl, hend⟩
set_option maxRecDepth 20000 in
set_option maxHeartbeats 8000000 in
theorem await_70 {f r o s k : Int} (hf : 0 ≤ f ∧ f ≤ 999) (hs : 0 ≤ s ∧ s ≤ 999) (w : World) : Calls Try.prog 15 #[ptV ⟨f, r, o, s, 70⟩, .int .i64 k] w fun e w' => e = .returned (tkV ⟨Pt.zero, cmdF ⟨f, r, o, s, 70⟩ 70 k, 2⟩) ∧ Ext w w' := by
  obtain ⟨hb0, hb1, hb2, hx⟩ := three (w := w) (.int .i64 f) (.int .i64 r) (.int .i64 o) (.int .i64 s) (.int .i64 70) (.int .i64 0) (.int .i64 0) (.int .i64 0) (.int .i64 0) (.int .i64 0) (.int .i64 0) (.int .i64 0) (.int .i64 0) (.int .i64 0) (.int .i64 0)
  have HC : Hid (∀ wq : World, _) := Lib.hid fun (wq : World) => command_ok ⟨f, r, o, s, 70⟩ 70 k wq hf hs
  unfold ptV cmV at HC
  simp only at HC
  unfold cmdF at HC
  simp only at HC
  obtain ⟨tot, ht⟩ : ∃ tot, totF ⟨f, r, o, s, 70⟩ = tot := ⟨_, rfl⟩
  rw [ht] at HC
  have HT := Lib.hid ht
  clear ht hf hs
  unfold ptV
  simp only
  go_enter Try.func15, Try.ntmps15
  go_wp2_with fail
  refine (HC.out _).mono ?_
  rintro e w1 ⟨rfl, he1⟩
  have HB1 := hb1.ext he1
  have HB2 := hb2.ext he1
  have heW := hx.trans he1
  clear hb0 hb1 hb2 hx
  have hB1 := set5_other (.int .i64 tot) (.int .i64 r) (.int .i64 o) (.int .i64 70) (.int .i64 k) (set5 (.int .i64 0) (.int .i64 0) (.int .i64 0) (.int .i64 0) (.int .i64 0) HB1) (show w.heap.size + 1 + 1 ≠ w.heap.size + 1 by omega)
  have hB2 := set5 (.int .i64 tot) (.int .i64 r) (.int .i64 o) (.int .i64 70) (.int .i64 k) (set5_other (.int .i64 0) (.int .i64 0) (.int .i64 0) (.int .i64 0) (.int .i64 0) HB2 (show w.heap.size + 1 ≠ w.heap.size + 1 + 1 by omega))
  have hend := set5_ext (.int .i64 tot) (.int .i64 r) (.int .i64 o) (.int .i64 70) (.int .i64 k) (set5_ext (.int .i64 0) (.int .i64 0) (.int .i64 0) (.int .i64 0) (.int .i64 0) heW (Nat.le_succ w.heap.size)) (show w.heap.size ≤ w.heap.size + 1 + 1 by omega)
  obtain ⟨⟨e0, e1, e2, e3, e4⟩, _⟩ := hB1.five
  obtain ⟨⟨d0, d1, d2, d3, d4⟩, _⟩ := hB2.five
  obtain ⟨⟨c0, c1, c2, c3, c4⟩, ⟨f0, f1, f2, f3, f4⟩⟩ := Blk.five HB1
  obtain ⟨⟨x0, x1, x2, x3, x4⟩, ⟨y0, y1, y2, y3, y4⟩⟩ := Blk.five HB2
  clear hB1 hB2
  clear HB1 HB2 heW HC he1
  go_wp2_with fail
  refine bodyPost_ret (by simp [results, Try.results15, go_sem, e0, e1, e2, e3, e4, d0, d1, d2, d3, d4]; try rfl) rfl ?_
  exact ⟨by rw [← HT.out]; rfl, hend⟩
set_option maxRecDepth 20000 in
set_option maxHeartbeats 8000000 in
theorem await_116 {f r o s k : Int} (hf : 0 ≤ f ∧ f ≤ 999) (hs : 0 ≤ s ∧ s ≤ 999) (w : World) : Calls Try.prog 15 #[ptV ⟨f, r, o, s, 116⟩, .int .i64 k] w fun e w' => e = .returned (tkV ⟨Pt.zero, cmdF ⟨f, r, o, s, 116⟩ 116 k, 2⟩) ∧ Ext w w' := by
  obtain ⟨hb0, hb1, hb2, hx⟩ := three (w := w) (.int .i64 f) (.int .i64 r) (.int .i64 o) (.int .i64 s) (.int .i64 116) (.int .i64 0) (.int .i64 0) (.int .i64 0) (.int .i64 0) (.int .i64 0) (.int .i64 0) (.int .i64 0) (.int .i64 0) (.int .i64 0) (.int .i64 0)
  have HC : Hid (∀ wq : World, _) := Lib.hid fun (wq : World) => command_ok ⟨f, r, o, s, 116⟩ 116 k wq hf hs
  unfold ptV cmV at HC
  simp only at HC
  unfold cmdF at HC
  simp only at HC
  obtain ⟨tot, ht⟩ : ∃ tot, totF ⟨f, r, o, s, 116⟩ = tot := ⟨_, rfl⟩
  rw [ht] at HC
  have HT := Lib.hid ht
  clear ht hf hs
  unfold ptV
  simp only
  go_enter Try.func15, Try.ntmps15
  go_wp2_with fail
  refine (HC.out _).mono ?_
  rintro e w1 ⟨rfl, he1⟩
  have HB1 := hb1.ext he1
  have HB2 := hb2.ext he1
  have heW := hx.trans he1
  clear hb0 hb1 hb2 hx
  have hB1 := set5_other (.int .i64 tot) (.int .i64 r) (.int .i64 o) (.int .i64 116) (.int .i64 k) (set5 (.int .i64 0) (.int .i64 0) (.int .i64 0) (.int .i64 0) (.int .i64 0) HB1) (show w.heap.size + 1 + 1 ≠ w.heap.size + 1 by omega)
  have hB2 := set5 (.int .i64 tot) (.int .i64 r) (.int .i64 o) (.int .i64 116) (.int .i64 k) (set5_other (.int .i64 0) (.int .i64 0) (.int .i64 0) (.int .i64 0) (.int .i64 0) HB2 (show w.heap.size + 1 ≠ w.heap.size + 1 + 1 by omega))
  have hend := set5_ext (.int .i64 tot) (.int .i64 r) (.int .i64 o) (.int .i64 116) (.int .i64 k) (set5_ext (.int .i64 0) (.int .i64 0) (.int .i64 0) (.int .i64 0) (.int .i64 0) heW (Nat.le_succ w.heap.size)) (show w.heap.size ≤ w.heap.size + 1 + 1 by omega)
  obtain ⟨⟨e0, e1, e2, e3, e4⟩, _⟩ := hB1.five
  obtain ⟨⟨d0, d1, d2, d3, d4⟩, _⟩ := hB2.five
  obtain ⟨⟨c0, c1, c2, c3, c4⟩, ⟨f0, f1, f2, f3, f4⟩⟩ := Blk.five HB1
  obtain ⟨⟨x0, x1, x2, x3, x4⟩, ⟨y0, y1, y2, y3, y4⟩⟩ := Blk.five HB2
  clear hB1 hB2
  clear HB1 HB2 heW HC he1
  go_wp2_with fail
  refine bodyPost_ret (by simp [results, Try.results15, go_sem, e0, e1, e2, e3, e4, d0, d1, d2, d3, d4]; try rfl) rfl ?_
  exact ⟨by rw [← HT.out]; rfl, hend⟩
set_option maxRecDepth 20000 in
set_option maxHeartbeats 8000000 in
theorem await_84 {f r o s k : Int} (hf : 0 ≤ f ∧ f ≤ 999) (hs : 0 ≤ s ∧ s ≤ 999) (w : World) : Calls Try.prog 15 #[ptV ⟨f, r, o, s, 84⟩, .int .i64 k] w fun e w' => e = .returned (tkV ⟨Pt.zero, cmdF ⟨f, r, o, s, 84⟩ 84 k, 2⟩) ∧ Ext w w' := by
  obtain ⟨hb0, hb1, hb2, hx⟩ := three (w := w) (.int .i64 f) (.int .i64 r) (.int .i64 o) (.int .i64 s) (.int .i64 84) (.int .i64 0) (.int .i64 0) (.int .i64 0) (.int .i64 0) (.int .i64 0) (.int .i64 0) (.int .i64 0) (.int .i64 0) (.int .i64 0) (.int .i64 0)
  have HC : Hid (∀ wq : World, _) := Lib.hid fun (wq : World) => command_ok ⟨f, r, o, s, 84⟩ 84 k wq hf hs
  unfold ptV cmV at HC
  simp only at HC
  unfold cmdF at HC
  simp only at HC
  obtain ⟨tot, ht⟩ : ∃ tot, totF ⟨f, r, o, s, 84⟩ = tot := ⟨_, rfl⟩
  rw [ht] at HC
  have HT := Lib.hid ht
  clear ht hf hs
  unfold ptV
  simp only
  go_enter Try.func15, Try.ntmps15
  go_wp2_with fail
  refine (HC.out _).mono ?_
  rintro e w1 ⟨rfl, he1⟩
  have HB1 := hb1.ext he1
  have HB2 := hb2.ext he1
  have heW := hx.trans he1
  clear hb0 hb1 hb2 hx
  have hB1 := set5_other (.int .i64 tot) (.int .i64 r) (.int .i64 o) (.int .i64 84) (.int .i64 k) (set5 (.int .i64 0) (.int .i64 0) (.int .i64 0) (.int .i64 0) (.int .i64 0) HB1) (show w.heap.size + 1 + 1 ≠ w.heap.size + 1 by omega)
  have hB2 := set5 (.int .i64 tot) (.int .i64 r) (.int .i64 o) (.int .i64 84) (.int .i64 k) (set5_other (.int .i64 0) (.int .i64 0) (.int .i64 0) (.int .i64 0) (.int .i64 0) HB2 (show w.heap.size + 1 ≠ w.heap.size + 1 + 1 by omega))
  have hend := set5_ext (.int .i64 tot) (.int .i64 r) (.int .i64 o) (.int .i64 84) (.int .i64 k) (set5_ext (.int .i64 0) (.int .i64 0) (.int .i64 0) (.int .i64 0) (.int .i64 0) heW (Nat.le_succ w.heap.size)) (show w.heap.size ≤ w.heap.size + 1 + 1 by omega)
  obtain ⟨⟨e0, e1, e2, e3, e4⟩, _⟩ := hB1.five
  obtain ⟨⟨d0, d1, d2, d3, d4⟩, _⟩ := hB2.five
  obtain ⟨⟨c0, c1, c2, c3, c4⟩, ⟨f0, f1, f2, f3, f4⟩⟩ := Blk.five HB1
  obtain ⟨⟨x0, x1, x2, x3, x4⟩, ⟨y0, y1, y2, y3, y4⟩⟩ := Blk.five HB2
  clear hB1 hB2
  clear HB1 HB2 heW HC he1
  go_wp2_with fail
  refine bodyPost_ret (by simp [results, Try.results15, go_sem, e0, e1, e2, e3, e4, d0, d1, d2, d3, d4]; try rfl) rfl ?_
  exact ⟨by rw [← HT.out]; rfl, hend⟩
set_option maxRecDepth 20000 in
set_option maxHeartbeats 8000000 in
theorem await_114 {f r o s k : Int} (hf : 0 ≤ f ∧ f ≤ 999) (hs : 0 ≤ s ∧ s ≤ 999) (w : World) : Calls Try.prog 15 #[ptV ⟨f, r, o, s, 114⟩, .int .i64 k] w fun e w' => e = .returned (tkV ⟨Pt.zero, cmdF ⟨f, r, o, s, 114⟩ 114 k, 2⟩) ∧ Ext w w' := by
  obtain ⟨hb0, hb1, hb2, hx⟩ := three (w := w) (.int .i64 f) (.int .i64 r) (.int .i64 o) (.int .i64 s) (.int .i64 114) (.int .i64 0) (.int .i64 0) (.int .i64 0) (.int .i64 0) (.int .i64 0) (.int .i64 0) (.int .i64 0) (.int .i64 0) (.int .i64 0) (.int .i64 0)
  have HC : Hid (∀ wq : World, _) := Lib.hid fun (wq : World) => command_ok ⟨f, r, o, s, 114⟩ 114 k wq hf hs
  unfold ptV cmV at HC
  simp only at HC
  unfold cmdF at HC
  simp only at HC
  obtain ⟨tot, ht⟩ : ∃ tot, totF ⟨f, r, o, s, 114⟩ = tot := ⟨_, rfl⟩
  rw [ht] at HC
  have HT := Lib.hid ht
  clear ht hf hs
  unfold ptV
  simp only
  go_enter Try.func15, Try.ntmps15
  go_wp2_with fail
  refine (HC.out _).mono ?_
  rintro e w1 ⟨rfl, he1⟩
  have HB1 := hb1.ext he1
  have HB2 := hb2.ext he1
  have heW := hx.trans he1
  clear hb0 hb1 hb2 hx
  have hB1 := set5_other (.int .i64 tot) (.int .i64 r) (.int .i64 o) (.int .i64 114) (.int .i64 k) (set5 (.int .i64 0) (.int .i64 0) (.int .i64 0) (.int .i64 0) (.int .i64 0) HB1) (show w.heap.size + 1 + 1 ≠ w.heap.size + 1 by omega)
  have hB2 := set5 (.int .i64 tot) (.int .i64 r) (.int .i64 o) (.int .i64 114) (.int .i64 k) (set5_other (.int .i64 0) (.int .i64 0) (.int .i64 0) (.int .i64 0) (.int .i64 0) HB2 (show w.heap.size + 1 ≠ w.heap.size + 1 + 1 by omega))
  have hend := set5_ext (.int .i64 tot) (.int .i64 r) (.int .i64 o) (.int .i64 114) (.int .i64 k) (set5_ext (.int .i64 0) (.int .i64 0) (.int .i64 0) (.int .i64 0) (.int .i64 0) heW (Nat.le_succ w.heap.size)) (show w.heap.size ≤ w.heap.size + 1 + 1 by omega)
  obtain ⟨⟨e0, e1, e2, e3, e4⟩, _⟩ := hB1.five
  obtain ⟨⟨d0, d1, d2, d3, d4⟩, _⟩ := hB2.five
  obtain ⟨⟨c0, c1, c2, c3, c4⟩, ⟨f0, f1, f2, f3, f4⟩⟩ := Blk.five HB1
  obtain ⟨⟨x0, x1, x2, x3, x4⟩, ⟨y0, y1, y2, y3, y4⟩⟩ := Blk.five HB2
  clear hB1 hB2
  clear HB1 HB2 heW HC he1
  go_wp2_with fail
  refine bodyPost_ret (by simp [results, Try.results15, go_sem, e0, e1, e2, e3, e4, d0, d1, d2, d3, d4]; try rfl) rfl ?_
  exact ⟨by rw [← HT.out]; rfl, hend⟩
set_option maxRecDepth 20000 in
set_option maxHeartbeats 8000000 in
theorem await_105_119 {f r o s : Int} (hf : 0 ≤ f ∧ f ≤ 999) (hs : 0 ≤ s ∧ s ≤ 999) (w : World) : Calls Try.prog 15 #[ptV ⟨f, r, o, s, 105⟩, .int .i64 119] w fun e w' => e = .returned (tkV ⟨Pt.zero, cmdF ⟨f, r, o, s, 105⟩ 105 119, 2⟩) ∧ Ext w w' := by
  obtain ⟨hb0, hb1, hb2, hx⟩ := three (w := w) (.int .i64 f) (.int .i64 r) (.int .i64 o) (.int .i64 s) (.int .i64 105) (.int .i64 0) (.int .i64 0) (.int .i64 0) (.int .i64 0) (.int .i64 0) (.int .i64 0) (.int .i64 0) (.int .i64 0) (.int .i64 0) (.int .i64 0)
  have HC : Hid (∀ wq : World, _) := Lib.hid fun (wq : World) => command_ok ⟨f, r, o, s, 105⟩ 105 119 wq hf hs
  unfold ptV cmV at HC
  simp only at HC
  unfold cmdF at HC
  simp only at HC
  obtain ⟨tot, ht⟩ : ∃ tot, totF ⟨f, r, o, s, 105⟩ = tot := ⟨_, rfl⟩
  rw [ht] at HC
  have HT := Lib.hid ht
  clear ht hf hs
  unfold ptV
  simp only
  go_enter Try.func15, Try.ntmps15
  go_wp2_with fail
  refine (HC.out _).mono ?_
  rintro e w1 ⟨rfl, he1⟩
  have HB1 := hb1.ext he1
  have HB2 := hb2.ext he1
  have heW := hx.trans he1
  clear hb0 hb1 hb2 hx
  have hB1 := set5_other (.int .i64 tot) (.int .i64 r) (.int .i64 o) (.int .i64 105) (.int .i64 119) (set5 (.int .i64 0) (.int .i64 0) (.int .i64 0) (.int .i64 0) (.int .i64 0) HB1) (show w.heap.size + 1 + 1 ≠ w.heap.size + 1 by omega)
  have hB2 := set5 (.int .i64 tot) (.int .i64 r) (.int .i64 o) (.int .i64 105) (.int .i64 119) (set5_other (.int .i64 0) (.int .i64 0) (.int .i64 0) (.int .i64 0) (.int .i64 0) HB2 (show w.heap.size + 1 ≠ w.heap.size + 1 + 1 by omega))
  have hend := set5_ext (.int .i64 tot) (.int .i64 r) (.int .i64 o) (.int .i64 105) (.int .i64 119) (set5_ext (.int .i64 0) (.int .i64 0) (.int .i64 0) (.int .i64 0) (.int .i64 0) heW (Nat.le_succ w.heap.size)) (show w.heap.size ≤ w.heap.size + 1 + 1 by omega)
  obtain ⟨⟨e0, e1, e2, e3, e4⟩, _⟩ := hB1.five
  obtain ⟨⟨d0, d1, d2, d3, d4⟩, _⟩ := hB2.five
  obtain ⟨⟨c0, c1, c2, c3, c4⟩, ⟨f0, f1, f2, f3, f4⟩⟩ := Blk.five HB1
  obtain ⟨⟨x0, x1, x2, x3, x4⟩, ⟨y0, y1, y2, y3, y4⟩⟩ := Blk.five HB2
  clear hB1 hB2
  clear HB1 HB2 heW HC he1
  go_wp2_with fail
  refine bodyPost_ret (by simp [results, Try.results15, go_sem, e0, e1, e2, e3, e4, d0, d1, d2, d3, d4]; try rfl) rfl ?_
  exact ⟨by rw [← HT.out]; rfl, hend⟩
set_option maxRecDepth 20000 in
set_option maxHeartbeats 8000000 in
theorem await_105_87 {f r o s : Int} (hf : 0 ≤ f ∧ f ≤ 999) (hs : 0 ≤ s ∧ s ≤ 999) (w : World) : Calls Try.prog 15 #[ptV ⟨f, r, o, s, 105⟩, .int .i64 87] w fun e w' => e = .returned (tkV ⟨Pt.zero, cmdF ⟨f, r, o, s, 105⟩ 105 87, 2⟩) ∧ Ext w w' := by
  obtain ⟨hb0, hb1, hb2, hx⟩ := three (w := w) (.int .i64 f) (.int .i64 r) (.int .i64 o) (.int .i64 s) (.int .i64 105) (.int .i64 0) (.int .i64 0) (.int .i64 0) (.int .i64 0) (.int .i64 0) (.int .i64 0) (.int .i64 0) (.int .i64 0) (.int .i64 0) (.int .i64 0)
  have HC : Hid (∀ wq : World, _) := Lib.hid fun (wq : World) => command_ok ⟨f, r, o, s, 105⟩ 105 87 wq hf hs
  unfold ptV cmV at HC
  simp only at HC
  unfold cmdF at HC
  simp only at HC
  obtain ⟨tot, ht⟩ : ∃ tot, totF ⟨f, r, o, s, 105⟩ = tot := ⟨_, rfl⟩
  rw [ht] at HC
  have HT := Lib.hid ht
  clear ht hf hs
  unfold ptV
  simp only
  go_enter Try.func15, Try.ntmps15
  go_wp2_with fail
  refine (HC.out _).mono ?_
  rintro e w1 ⟨rfl, he1⟩
  have HB1 := hb1.ext he1
  have HB2 := hb2.ext he1
  have heW := hx.trans he1
  clear hb0 hb1 hb2 hx
  have hB1 := set5_other (.int .i64 tot) (.int .i64 r) (.int .i64 o) (.int .i64 105) (.int .i64 87) (set5 (.int .i64 0) (.int .i64 0) (.int .i64 0) (.int .i64 0) (.int .i64 0) HB1) (show w.heap.size + 1 + 1 ≠ w.heap.size + 1 by omega)
  have hB2 := set5 (.int .i64 tot) (.int .i64 r) (.int .i64 o) (.int .i64 105) (.int .i64 87) (set5_other (.int .i64 0) (.int .i64 0) (.int .i64 0) (.int .i64 0) (.int .i64 0) HB2 (show w.heap.size + 1 ≠ w.heap.size + 1 + 1 by omega))
  have hend := set5_ext (.int .i64 tot) (.int .i64 r) (.int .i64 o) (.int .i64 105) (.int .i64 87) (set5_ext (.int .i64 0) (.int .i64 0) (.int .i64 0) (.int .i64 0) (.int .i64 0) heW (Nat.le_succ w.heap.size)) (show w.heap.size ≤ w.heap.size + 1 + 1 by omega)
  obtain ⟨⟨e0, e1, e2, e3, e4⟩, _⟩ := hB1.five
  obtain ⟨⟨d0, d1, d2, d3, d4⟩, _⟩ := hB2.five
  obtain ⟨⟨c0, c1, c2, c3, c4⟩, ⟨f0, f1, f2, f3, f4⟩⟩ := Blk.five HB1
  obtain ⟨⟨x0, x1, x2, x3, x4⟩, ⟨y0, y1, y2, y3, y4⟩⟩ := Blk.five HB2
  clear hB1 hB2
  clear HB1 HB2 heW HC he1
  go_wp2_with fail
  refine bodyPost_ret (by simp [results, Try.results15, go_sem, e0, e1, e2, e3, e4, d0, d1, d2, d3, d4]; try rfl) rfl ?_
  exact ⟨by rw [← HT.out]; rfl, hend⟩
set_option maxRecDepth 20000 in
set_option maxHeartbeats 8000000 in
theorem await_105_40 {f r o s : Int} (hf : 0 ≤ f ∧ f ≤ 999) (hs : 0 ≤ s ∧ s ≤ 999) (w : World) : Calls Try.prog 15 #[ptV ⟨f, r, o, s, 105⟩, .int .i64 40] w fun e w' => e = .returned (tkV ⟨Pt.zero, cmdF ⟨f, r, o, s, 105⟩ 105 40, 2⟩) ∧ Ext w w' := by
  obtain ⟨hb0, hb1, hb2, hx⟩ := three (w := w) (.int .i64 f) (.int .i64 r) (.int .i64 o) (.int .i64 s) (.int .i64 105) (.int .i64 0) (.int .i64 0) (.int .i64 0) (.int .i64 0) (.int .i64 0) (.int .i64 0) (.int .i64 0) (.int .i64 0) (.int .i64 0) (.int .i64 0)
  have HC : Hid (∀ wq : World, _) := Lib.hid fun (wq : World) => command_ok ⟨f, r, o, s, 105⟩ 105 40 wq hf hs
  unfold ptV cmV at HC
  simp only at HC
  unfold cmdF at HC
  simp only at HC
  obtain ⟨tot, ht⟩ : ∃ tot, totF ⟨f, r, o, s, 105⟩ = tot := ⟨_, rfl⟩
  rw [ht] at HC
  have HT := Lib.hid ht
  clear ht hf hs
  unfold ptV
  simp only
  go_enter Try.func15, Try.ntmps15
  go_wp2_with fail
  refine (HC.out _).mono ?_
  rintro e w1 ⟨rfl, he1⟩
  have HB1 := hb1.ext he1
  have HB2 := hb2.ext he1
  have heW := hx.trans he1
  clear hb0 hb1 hb2 hx
  have hB1 := set5_other (.int .i64 tot) (.int .i64 r) (.int .i64 o) (.int .i64 105) (.int .i64 40) (set5 (.int .i64 0) (.int .i64 0) (.int .i64 0) (.int .i64 0) (.int .i64 0) HB1) (show w.heap.size + 1 + 1 ≠ w.heap.size + 1 by omega)
  have hB2 := set5 (.int .i64 tot) (.int .i64 r) (.int .i64 o) (.int .i64 105) (.int .i64 40) (set5_other (.int .i64 0) (.int .i64 0) (.int .i64 0) (.int .i64 0) (.int .i64 0) HB2 (show w.heap.size + 1 ≠ w.heap.size + 1 + 1 by omega))
  have hend := set5_ext (.int .i64 tot) (.int .i64 r) (.int .i64 o) (.int .i64 105) (.int .i64 40) (set5_ext (.int .i64 0) (.int .i64 0) (.int .i64 0) (.int .i64 0) (.int .i64 0) heW (Nat.le_succ w.heap.size)) (show w.heap.size ≤ w.heap.size + 1 + 1 by omega)
  obtain ⟨⟨e0, e1, e2, e3, e4⟩, _⟩ := hB1.five
  obtain ⟨⟨d0, d1, d2, d3, d4⟩, _⟩ := hB2.five
  obtain ⟨⟨c0, c1, c2, c3, c4⟩, ⟨f0, f1, f2, f3, f4⟩⟩ := Blk.five HB1
  obtain ⟨⟨x0, x1, x2, x3, x4⟩, ⟨y0, y1, y2, y3, y4⟩⟩ := Blk.five HB2
  clear hB1 hB2
  clear HB1 HB2 heW HC he1
  go_wp2_with fail
  refine bodyPost_ret (by simp [results, Try.results15, go_sem, e0, e1, e2, e3, e4, d0, d1, d2, d3, d4]; try rfl) rfl ?_
  exact ⟨by rw [← HT.out]; rfl, hend⟩
set_option maxRecDepth 20000 in
set_option maxHeartbeats 8000000 in
theorem await_105_41 {f r o s : Int} (hf : 0 ≤ f ∧ f ≤ 999) (hs : 0 ≤ s ∧ s ≤ 999) (w : World) : Calls Try.prog 15 #[ptV ⟨f, r, o, s, 105⟩, .int .i64 41] w fun e w' => e = .returned (tkV ⟨Pt.zero, cmdF ⟨f, r, o, s, 105⟩ 105 41, 2⟩) ∧ Ext w w' := by
  obtain ⟨hb0, hb1, hb2, hx⟩ := three (w := w) (.int .i64 f) (.int .i64 r) (.int .i64 o) (.int .i64 s) (.int .i64 105) (.int .i64 0) (.int .i64 0) (.int .i64 0) (.int .i64 0) (.int .i64 0) (.int .i64 0) (.int .i64 0) (.int .i64 0) (.int .i64 0) (.int .i64 0)
  have HC : Hid (∀ wq : World, _) := Lib.hid fun (wq : World) => command_ok ⟨f, r, o, s, 105⟩ 105 41 wq hf hs
  unfold ptV cmV at HC
  simp only at HC
  unfold cmdF at HC
  simp only at HC
  obtain ⟨tot, ht⟩ : ∃ tot, totF ⟨f, r, o, s, 105⟩ = tot := ⟨_, rfl⟩
  rw [ht] at HC
  have HT := Lib.hid ht
  clear ht hf hs
  unfold ptV
  simp only
  go_enter Try.func15, Try.ntmps15
  go_wp2_with fail
  refine (HC.out _).mono ?_
  rintro e w1 ⟨rfl, he1⟩
  have HB1 := hb1.ext he1
  have HB2 := hb2.ext he1
  have heW := hx.trans he1
  clear hb0 hb1 hb2 hx
  have hB1 := set5_other (.int .i64 tot) (.int .i64 r) (.int .i64 o) (.int .i64 105) (.int .i64 41) (set5 (.int .i64 0) (.int .i64 0) (.int .i64 0) (.int .i64 0) (.int .i64 0) HB1) (show w.heap.size + 1 + 1 ≠ w.heap.size + 1 by omega)
  have hB2 := set5 (.int .i64 tot) (.int .i64 r) (.int .i64 o) (.int .i64 105) (.int .i64 41) (set5_other (.int .i64 0) (.int .i64 0) (.int .i64 0) (.int .i64 0) (.int .i64 0) HB2 (show w.heap.size + 1 ≠ w.heap.size + 1 + 1 by omega))
  have hend := set5_ext (.int .i64 tot) (.int .i64 r) (.int .i64 o) (.int .i64 105) (.int .i64 41) (set5_ext (.int .i64 0) (.int .i64 0) (.int .i64 0) (.int .i64 0) (.int .i64 0) heW (Nat.le_succ w.heap.size)) (show w.heap.size ≤ w.heap.size + 1 + 1 by omega)
  obtain ⟨⟨e0, e1, e2, e3, e4⟩, _⟩ := hB1.five
  obtain ⟨⟨d0, d1, d2, d3, d4⟩, _⟩ := hB2.five
  obtain ⟨⟨c0, c1, c2, c3, c4⟩, ⟨f0, f1, f2, f3, f4⟩⟩ := Blk.five HB1
  obtain ⟨⟨x0, x1, x2, x3, x4⟩, ⟨y0, y1, y2, y3, y4⟩⟩ := Blk.five HB2
  clear hB1 hB2
  clear HB1 HB2 heW HC he1
  go_wp2_with fail
  refine bodyPost_ret (by simp [results, Try.results15, go_sem, e0, e1, e2, e3, e4, d0, d1, d2, d3, d4]; try rfl) rfl ?_
  exact ⟨by rw [← HT.out]; rfl, hend⟩
set_option maxRecDepth 20000 in
set_option maxHeartbeats 8000000 in
theorem await_105_91 {f r o s : Int} (hf : 0 ≤ f ∧ f ≤ 999) (hs : 0 ≤ s ∧ s ≤ 999) (w : World) : Calls Try.prog 15 #[ptV ⟨f, r, o, s, 105⟩, .int .i64 91] w fun e w' => e = .returned (tkV ⟨Pt.zero, cmdF ⟨f, r, o, s, 105⟩ 105 91, 2⟩) ∧ Ext w w' := by
  obtain ⟨hb0, hb1, hb2, hx⟩ := three (w := w) (.int .i64 f) (.int .i64 r) (.int .i64 o) (.int .i64 s) (.int .i64 105) (.int .i64 0) (.int .i64 0) (.int .i64 0) (.int .i64 0) (.int .i64 0) (.int .i64 0) (.int .i64 0) (.int .i64 0) (.int .i64 0) (.int .i64 0)
  have HC : Hid (∀ wq : World, _) := Lib.hid fun (wq : World) => command_ok ⟨f, r, o, s, 105⟩ 105 91 wq hf hs
  unfold ptV cmV at HC
  simp only at HC
  unfold cmdF at HC
  simp only at HC
  obtain ⟨tot, ht⟩ : ∃ tot, totF ⟨f, r, o, s, 105⟩ = tot := ⟨_, rfl⟩
  rw [ht] at HC
  have HT := Lib.hid ht
  clear ht hf hs
  unfold ptV
  simp only
  go_enter Try.func15, Try.ntmps15
  go_wp2_with fail
  refine (HC.out _).mono ?_
  rintro e w1 ⟨rfl, he1⟩
  have HB1 := hb1.ext he1
  have HB2 := hb2.ext he1
  have heW := hx.trans he1
  clear hb0 hb1 hb2 hx
  have hB1 := set5_other (.int .i64 tot) (.int .i64 r) (.int .i64 o) (.int .i64 105) (.int .i64 91) (set5 (.int .i64 0) (.int .i64 0) (.int .i64 0) (.int .i64 0) (.int .i64 0) HB1) (show w.heap.size + 1 + 1 ≠ w.heap.size + 1 by omega)
  have hB2 := set5 (.int .i64 tot) (.int .i64 r) (.int .i64 o) (.int .i64 105) (.int .i64 91) (set5_other (.int .i64 0) (.int .i64 0) (.int .i64 0) (.int .i64 0) (.int .i64 0) HB2 (show w.heap.size + 1 ≠ w.heap.size + 1 + 1 by omega))
  have hend := set5_ext (.int .i64 tot) (.int .i64 r) (.int .i64 o) (.int .i64 105) (.int .i64 91) (set5_ext (.int .i64 0) (.int .i64 0) (.int .i64 0) (.int .i64 0) (.int .i64 0) heW (Nat.le_succ w.heap.size)) (show w.heap.size ≤ w.heap.size + 1 + 1 by omega)
  obtain ⟨⟨e0, e1, e2, e3, e4⟩, _⟩ := hB1.five
  obtain ⟨⟨d0, d1, d2, d3, d4⟩, _⟩ := hB2.five
  obtain ⟨⟨c0, c1, c2, c3, c4⟩, ⟨f0, f1, f2, f3, f4⟩⟩ := Blk.five HB1
  obtain ⟨⟨x0, x1, x2, x3, x4⟩, ⟨y0, y1, y2, y3, y4⟩⟩ := Blk.five HB2
  clear hB1 hB2
  clear HB1 HB2 heW HC he1
  go_wp2_with fail
  refine bodyPost_ret (by simp [results, Try.results15, go_sem, e0, e1, e2, e3, e4, d0, d1, d2, d3, d4]; try rfl) rfl ?_
  exact ⟨by rw [← HT.out]; rfl, hend⟩
set_option maxRecDepth 20000 in
set_option maxHeartbeats 8000000 in
theorem await_105_93 {f r o s : Int} (hf : 0 ≤ f ∧ f ≤ 999) (hs : 0 ≤ s ∧ s ≤ 999) (w : World) : Calls Try.prog 15 #[ptV ⟨f, r, o, s, 105⟩, .int .i64 93] w fun e w' => e = .returned (tkV ⟨Pt.zero, cmdF ⟨f, r, o, s, 105⟩ 105 93, 2⟩) ∧ Ext w w' := by
  obtain ⟨hb0, hb1, hb2, hx⟩ := three (w := w) (.int .i64 f) (.int .i64 r) (.int .i64 o) (.int .i64 s) (.int .i64 105) (.int .i64 0) (.int .i64 0) (.int .i64 0) (.int .i64 0) (.int .i64 0) (.int .i64 0) (.int .i64 0) (.int .i64 0) (.int .i64 0) (.int .i64 0)
  have HC : Hid (∀ wq : World, _) := Lib.hid fun (wq : World) => command_ok ⟨f, r, o, s, 105⟩ 105 93 wq hf hs
  unfold ptV cmV at HC
  simp only at HC
  unfold cmdF at HC
  simp only at HC
  obtain ⟨tot, ht⟩ : ∃ tot, totF ⟨f, r, o, s, 105⟩ = tot := ⟨_, rfl⟩
  rw [ht] at HC
  have HT := Lib.hid ht
  clear ht hf hs
  unfold ptV
  simp only
  go_enter Try.func15, Try.ntmps15
  go_wp2_with fail
  refine (HC.out _).mono ?_
  rintro e w1 ⟨rfl, he1⟩
  have HB1 := hb1.ext he1
  have HB2 := hb2.ext he1
  have heW := hx.trans he1
  clear hb0 hb1 hb2 hx
  have hB1 := set5_other (.int .i64 tot) (.int .i64 r) (.int .i64 o) (.int .i64 105) (.int .i64 93) (set5 (.int .i64 0) (.int .i64 0) (.int .i64 0) (.int .i64 0) (.int .i64 0) HB1) (show w.heap.size + 1 + 1 ≠ w.heap.size + 1 by omega)
  have hB2 := set5 (.int .i64 tot) (.int .i64 r) (.int .i64 o) (.int .i64 105) (.int .i64 93) (set5_other (.int .i64 0) (.int .i64 0) (.int .i64 0) (.int .i64 0) (.int .i64 0) HB2 (show w.heap.size + 1 ≠ w.heap.size + 1 + 1 by omega))
  have hend := set5_ext (.int .i64 tot) (.int .i64 r) (.int .i64 o) (.int .i64 105) (.int .i64 93) (set5_ext (.int .i64 0) (.int .i64 0) (.int .i64 0) (.int .i64 0) (.int .i64 0) heW (Nat.le_succ w.heap.size)) (show w.heap.size ≤ w.heap.size + 1 + 1 by omega)
  obtain ⟨⟨e0, e1, e2, e3, e4⟩, _⟩ := hB1.five
  obtain ⟨⟨d0, d1, d2, d3, d4⟩, _⟩ := hB2.five
  obtain ⟨⟨c0, c1, c2, c3, c4⟩, ⟨f0, f1, f2, f3, f4⟩⟩ := Blk.five HB1
  obtain ⟨⟨x0, x1, x2, x3, x4⟩, ⟨y0, y1, y2, y3, y4⟩⟩ := Blk.five HB2
  clear hB1 hB2
  clear HB1 HB2 heW HC he1
  go_wp2_with fail
  refine bodyPost_ret (by simp [results, Try.results15, go_sem, e0, e1, e2, e3, e4, d0, d1, d2, d3, d4]; try rfl) rfl ?_
  exact ⟨by rw [← HT.out]; rfl, hend⟩
set_option maxRecDepth 20000 in
set_option maxHeartbeats 8000000 in
theorem await_105_123 {f r o s : Int} (hf : 0 ≤ f ∧ f ≤ 999) (hs : 0 ≤ s ∧ s ≤ 999) (w : World) : Calls Try.prog 15 #[ptV ⟨f, r, o, s, 105⟩, .int .i64 123] w fun e w' => e = .returned (tkV ⟨Pt.zero, cmdF ⟨f, r, o, s, 105⟩ 105 123, 2⟩) ∧ Ext w w' := by
  obtain ⟨hb0, hb1, hb2, hx⟩ := three (w := w) (.int .i64 f) (.int .i64 r) (.int .i64 o) (.int .i64 s) (.int .i64 105) (.int .i64 0) (.int .i64 0) (.int .i64 0) (.int .i64 0) (.int .i64 0) (.int .i64 0) (.int .i64 0) (.int .i64 0) (.int .i64 0) (.int .i64 0)
  have HC : Hid (∀ wq : World, _) := Lib.hid fun (wq : World) => command_ok ⟨f, r, o, s, 105⟩ 105 123 wq hf hs
  unfold ptV cmV at HC
  simp only at HC
  unfold cmdF at HC
  simp only at HC
  obtain ⟨tot, ht⟩ : ∃ tot, totF ⟨f, r, o, s, 105⟩ = tot := ⟨_, rfl⟩
  rw [ht] at HC
  have HT := Lib.hid ht
  clear ht hf hs
  unfold ptV
  simp only
  go_enter Try.func15, Try.ntmps15
  go_wp2_with fail
  refine (HC.out _).mono ?_
  rintro e w1 ⟨rfl, he1⟩
  have HB1 := hb1.ext he1
  have HB2 := hb2.ext he1
  have heW := hx.trans he1
  clear hb0 hb1 hb2 hx
  have hB1 := set5_other (.int .i64 tot) (.int .i64 r) (.int .i64 o) (.int .i64 105) (.int .i64 123) (set5 (.int .i64 0) (.int .i64 0) (.int .i64 0) (.int .i64 0) (.int .i64 0) HB1) (show w.heap.size + 1 + 1 ≠ w.heap.size + 1 by omega)
  have hB2 := set5 (.int .i64 tot) (.int .i64 r) (.int .i64 o) (.int .i64 105) (.int .i64 123) (set5_other (.int .i64 0) (.int .i64 0) (.int .i64 0) (.int .i64 0) (.int .i64 0) HB2 (show w.heap.size + 1 ≠ w.heap.size + 1 + 1 by omega))
  have hend := set5_ext (.int .i64 tot) (.int .i64 r) (.int .i64 o) (.int .i64 105) (.int .i64 123) (set5_ext (.int .i64 0) (.int .i64 0) (.int .i64 0) (.int .i64 0) (.int .i64 0) heW (Nat.le_succ w.heap.size)) (show w.heap.size ≤ w.heap.size + 1 + 1 by omega)
  obtain ⟨⟨e0, e1, e2, e3, e4⟩, _⟩ := hB1.five
  obtain ⟨⟨d0, d1, d2, d3, d4⟩, _⟩ := hB2.five
  obtain ⟨⟨c0, c1, c2, c3, c4⟩, ⟨f0, f1, f2, f3, f4⟩⟩ := Blk.five HB1
  obtain ⟨⟨x0, x1, x2, x3, x4⟩, ⟨y0, y1, y2, y3, y4⟩⟩ := Blk.five HB2
  clear hB1 hB2
  clear HB1 HB2 heW HC he1
  go_wp2_with fail
  refine bodyPost_ret (by simp [results, Try.results15, go_sem, e0, e1, e2, e3, e4, d0, d1, d2, d3, d4]; try rfl) rfl ?_
  exact ⟨by rw [← HT.out]; rfl, hend⟩
set_option maxRecDepth 20000 in
set_option maxHeartbeats 8000000 in
theorem await_105_125 {f r o s : Int} (hf : 0 ≤ f ∧ f ≤ 999) (hs : 0 ≤ s ∧ s ≤ 999) (w : World) : Calls Try.prog 15 #[ptV ⟨f, r, o, s, 105⟩, .int .i64 125] w fun e w' => e = .returned (tkV ⟨Pt.zero, cmdF ⟨f, r, o, s, 105⟩ 105 125, 2⟩) ∧ Ext w w' := by
  obtain ⟨hb0, hb1, hb2, hx⟩ := three (w := w) (.int .i64 f) (.int .i64 r) (.int .i64 o) (.int .i64 s) (.int .i64 105) (.int .i64 0) (.int .i64 0) (.int .i64 0) (.int .i64 0) (.int .i64 0) (.int .i64 0) (.int .i64 0) (.int .i64 0) (.int .i64 0) (.int .i64 0)
  have HC : Hid (∀ wq : World, _) := Lib.hid fun (wq : World) => command_ok ⟨f, r, o, s, 105⟩ 105 125 wq hf hs
  unfold ptV cmV at HC
  simp only at HC
  unfold cmdF at HC
  simp only at HC
  obtain ⟨tot, ht⟩ : ∃ tot, totF ⟨f, r, o, s, 105⟩ = tot := ⟨_, rfl⟩
  rw [ht] at HC
  have HT := Lib.hid ht
  clear ht hf hs
  unfold ptV
  simp only
  go_enter Try.func15, Try.ntmps15
  go_wp2_with fail
  refine (HC.out _).mono ?_
  rintro e w1 ⟨rfl, he1⟩
  have HB1 := hb1.ext he1
  have HB2 := hb2.ext he1
  have heW := hx.trans he1
  clear hb0 hb1 hb2 hx
  have hB1 := set5_other (.int .i64 tot) (.int .i64 r) (.int .i64 o) (.int .i64 105) (.int .i64 125) (set5 (.int .i64 0) (.int .i64 0) (.int .i64 0) (.int .i64 0) (.int .i64 0) HB1) (show w.heap.size + 1 + 1 ≠ w.heap.size + 1 by omega)
  have hB2 := set5 (.int .i64 tot) (.int .i64 r) (.int .i64 o) (.int .i64 105) (.int .i64 125) (set5_other (.int .i64 0) (.int .i64 0) (.int .i64 0) (.int .i64 0) (.int .i64 0) HB2 (show w.heap.size + 1 ≠ w.heap.size + 1 + 1 by omega))
  have hend := set5_ext (.int .i64 tot) (.int .i64 r) (.int .i64 o) (.int .i64 105) (.int .i64 125) (set5_ext (.int .i64 0) (.int .i64 0) (.int .i64 0) (.int .i64 0) (.int .i64 0) heW (Nat.le_succ w.heap.size)) (show w.heap.size ≤ w.heap.size + 1 + 1 by omega)
  obtain ⟨⟨e0, e1, e2, e3, e4⟩, _⟩ := hB1.five
  obtain ⟨⟨d0, d1, d2, d3, d4⟩, _⟩ := hB2.five
  obtain ⟨⟨c0, c1, c2, c3, c4⟩, ⟨f0, f1, f2, f3, f4⟩⟩ := Blk.five HB1
  obtain ⟨⟨x0, x1, x2, x3, x4⟩, ⟨y0, y1, y2, y3, y4⟩⟩ := Blk.five HB2
  clear hB1 hB2
  clear HB1 HB2 heW HC he1
  go_wp2_with fail
  refine bodyPost_ret (by simp [results, Try.results15, go_sem, e0, e1, e2, e3, e4, d0, d1, d2, d3, d4]; try rfl) rfl ?_
  exact ⟨by rw [← HT.out]; rfl, hend⟩
set_option maxRecDepth 20000 in
set_option maxHeartbeats 8000000 in
theorem await_105_34 {f r o s : Int} (hf : 0 ≤ f ∧ f ≤ 999) (hs : 0 ≤ s ∧ s ≤ 999) (w : World) : Calls Try.prog 15 #[ptV ⟨f, r, o, s, 105⟩, .int .i64 34] w fun e w' => e = .returned (tkV ⟨Pt.zero, cmdF ⟨f, r, o, s, 105⟩ 105 34, 2⟩) ∧ Ext w w' := by
  obtain ⟨hb0, hb1, hb2, hx⟩ := three (w := w) (.int .i64 f) (.int .i64 r) (.int .i64 o) (.int .i64 s) (.int .i64 105) (.int .i64 0) (.int .i64 0) (.int .i64 0) (.int .i64 0) (.int .i64 0) (.int .i64 0) (.int .i64 0) (.int .i64 0) (.int .i64 0) (.int .i64 0)
  have HC : Hid (∀ wq : World, _) := Lib.hid fun (wq : World) => command_ok ⟨f, r, o, s, 105⟩ 105 34 wq hf hs
  unfold ptV cmV at HC
  simp only at HC
  unfold cmdF at HC
  simp only at HC
  obtain ⟨tot, ht⟩ : ∃ tot, totF ⟨f, r, o, s, 105⟩ = tot := ⟨_, rfl⟩
  rw [ht] at HC
  have HT := Lib.hid ht
  clear ht hf hs
  unfold ptV
  simp only
  go_enter Try.func15, Try.ntmps15
  go_wp2_with fail
  refine (HC.out _).mono ?_
  rintro e w1 ⟨rfl, he1⟩
  have HB1 := hb1.ext he1
  have HB2 := hb2.ext he1
  have heW := hx.trans he1
  clear hb0 hb1 hb2 hx
  have hB1 := set5_other (.int .i64 tot) (.int .i64 r) (.int .i64 o) (.int .i64 105) (.int .i64 34) (set5 (.int .i64 0) (.int .i64 0) (.int .i64 0) (.int .i64 0) (.int .i64 0) HB1) (show w.heap.size + 1 + 1 ≠ w.heap.size + 1 by omega)
  have hB2 := set5 (.int .i64 tot) (.int .i64 r) (.int .i64 o) (.int .i64 105) (.int .i64 34) (set5_other (.int .i64 0) (.int .i64 0) (.int .i64 0) (.int .i64 0) (.int .i64 0) HB2 (show w.heap.size + 1 ≠ w.heap.size + 1 + 1 by omega))
  have hend := set5_ext (.int .i64 tot) (.int .i64 r) (.int .i64 o) (.int .i64 105) (.int .i64 34) (set5_ext (.int .i64 0) (.int .i64 0) (.int .i64 0) (.int .i64 0) (.int .i64 0) heW (Nat.le_succ w.heap.size)) (show w.heap.size ≤ w.heap.size + 1 + 1 by omega)
  obtain ⟨⟨e0, e1, e2, e3, e4⟩, _⟩ := hB1.five
  obtain ⟨⟨d0, d1, d2, d3, d4⟩, _⟩ := hB2.five
  obtain ⟨⟨c0, c1, c2, c3, c4⟩, ⟨f0, f1, f2, f3, f4⟩⟩ := Blk.five HB1
  obtain ⟨⟨x0, x1, x2, x3, x4⟩, ⟨y0, y1, y2, y3, y4⟩⟩ := Blk.five HB2
  clear hB1 hB2
  clear HB1 HB2 heW HC he1
  go_wp2_with fail
  refine bodyPost_ret (by simp [results, Try.results15, go_sem, e0, e1, e2, e3, e4, d0, d1, d2, d3, d4]; try rfl) rfl ?_
  exact ⟨by rw [← HT.out]; rfl, hend⟩
set_option maxRecDepth 20000 in
set_option maxHeartbeats 8000000 in
theorem await_105_39 {f r o s : Int} (hf : 0 ≤ f ∧ f ≤ 999) (hs : 0 ≤ s ∧ s ≤ 999) (w : World) : Calls Try.prog 15 #[ptV ⟨f, r, o, s, 105⟩, .int .i64 39] w fun e w' => e = .returned (tkV ⟨Pt.zero, cmdF ⟨f, r, o, s, 105⟩ 105 39, 2⟩) ∧ Ext w w' := by
  obtain ⟨hb0, hb1, hb2, hx⟩ := three (w := w) (.int .i64 f) (.int .i64 r) (.int .i64 o) (.int .i64 s) (.int .i64 105) (.int .i64 0) (.int .i64 0) (.int .i64 0) (.int .i64 0) (.int .i64 0) (.int .i64 0) (.int .i64 0) (.int .i64 0) (.int .i64 0) (.int .i64 0)
  have HC : Hid (∀ wq : World, _) := Lib.hid fun (wq : World) => command_ok ⟨f, r, o, s, 105⟩ 105 39 wq hf hs
  unfold ptV cmV at HC
  simp only at HC
  unfold cmdF at HC
  simp only at HC
  obtain ⟨tot, ht⟩ : ∃ tot, totF ⟨f, r, o, s, 105⟩ = tot := ⟨_, rfl⟩
  rw [ht] at HC
  have HT := Lib.hid ht
  clear ht hf hs
  unfold ptV
  simp only
  go_enter Try.func15, Try.ntmps15
  go_wp2_with fail
  refine (HC.out _).mono ?_
  rintro e w1 ⟨rfl, he1⟩
  have HB1 := hb1.ext he1
  have HB2 := hb2.ext he1
  have heW := hx.trans he1
  clear hb0 hb1 hb2 hx
  have hB1 := set5_other (.int .i64 tot) (.int .i64 r) (.int .i64 o) (.int .i64 105) (.int .i64 39) (set5 (.int .i64 0) (.int .i64 0) (.int .i64 0) (.int .i64 0) (.int .i64 0) HB1) (show w.heap.size + 1 + 1 ≠ w.heap.size + 1 by omega)
  have hB2 := set5 (.int .i64 tot) (.int .i64 r) (.int .i64 o) (.int .i64 105) (.int .i64 39) (set5_other (.int .i64 0) (.int .i64 0) (.int .i64 0) (.int .i64 0) (.int .i64 0) HB2 (show w.heap.size + 1 ≠ w.heap.size + 1 + 1 by omega))
  have hend := set5_ext (.int .i64 tot) (.int .i64 r) (.int .i64 o) (.int .i64 105) (.int .i64 39) (set5_ext (.int .i64 0) (.int .i64 0) (.int .i64 0) (.int .i64 0) (.int .i64 0) heW (Nat.le_succ w.heap.size)) (show w.heap.size ≤ w.heap.size + 1 + 1 by omega)
  obtain ⟨⟨e0, e1, e2, e3, e4⟩, _⟩ := hB1.five
  obtain ⟨⟨d0, d1, d2, d3, d4⟩, _⟩ := hB2.five
  obtain ⟨⟨c0, c1, c2, c3, c4⟩, ⟨f0, f1, f2, f3, f4⟩⟩ := Blk.five HB1
  obtain ⟨⟨x0, x1, x2, x3, x4⟩, ⟨y0, y1, y2, y3, y4⟩⟩ := Blk.five HB2
  clear hB1 hB2
  clear HB1 HB2 heW HC he1
  go_wp2_with fail
  refine bodyPost_ret (by simp [results, Try.results15, go_sem, e0, e1, e2, e3, e4, d0, d1, d2, d3, d4]; try rfl) rfl ?_
  exact ⟨by rw [← HT.out]; rfl, hend⟩
set_option maxRecDepth 20000 in
set_option maxHeartbeats 8000000 in
theorem await_105_96 {f r o s : Int} (hf : 0 ≤ f ∧ f ≤ 999) (hs : 0 ≤ s ∧ s ≤ 999) (w : World) : Calls Try.prog 15 #[ptV ⟨f, r, o, s, 105⟩, .int .i64 96] w fun e w' => e = .returned (tkV ⟨Pt.zero, cmdF ⟨f, r, o, s, 105⟩ 105 96, 2⟩) ∧ Ext w w' := by
  obtain ⟨hb0, hb1, hb2, hx⟩ := three (w := w) (.int .i64 f) (.int .i64 r) (.int .i64 o) (.int .i64 s) (.int .i64 105) (.int .i64 0) (.int .i64 0) (.int .i64 0) (.int .i64 0) (.int .i64 0) (.int .i64 0) (.int .i64 0) (.int .i64 0) (.int .i64 0) (.int .i64 0)
  have HC : Hid (∀ wq : World, _) := Lib.hid fun (wq : World) => command_ok ⟨f, r, o, s, 105⟩ 105 96 wq hf hs
  unfold ptV cmV at HC
  simp only at HC
  unfold cmdF at HC
  simp only at HC
  obtain ⟨tot, ht⟩ : ∃ tot, totF ⟨f, r, o, s, 105⟩ = tot := ⟨_, rfl⟩
  rw [ht] at HC
  have HT := Lib.hid ht
  clear ht hf hs
  unfold ptV
  simp only
  go_enter Try.func15, Try.ntmps15
  go_wp2_with fail
  refine (HC.out _).mono ?_
  rintro e w1 ⟨rfl, he1⟩
  have HB1 := hb1.ext he1
  have HB2 := hb2.ext he1
  have heW := hx.trans he1
  clear hb0 hb1 hb2 hx
  have hB1 := set5_other (.int .i64 tot) (.int .i64 r) (.int .i64 o) (.int .i64 105) (.int .i64 96) (set5 (.int .i64 0) (.int .i64 0) (.int .i64 0) (.int .i64 0) (.int .i64 0) HB1) (show w.heap.size + 1 + 1 ≠ w.heap.size + 1 by omega)
  have hB2 := set5 (.int .i64 tot) (.int .i64 r) (.int .i64 o) (.int .i64 105) (.int .i64 96) (set5_other (.int .i64 0) (.int .i64 0) (.int .i64 0) (.int .i64 0) (.int .i64 0) HB2 (show w.heap.size + 1 ≠ w.heap.size + 1 + 1 by omega))
  have hend := set5_ext (.int .i64 tot) (.int .i64 r) (.int .i64 o) (.int .i64 105) (.int .i64 96) (set5_ext (.int .i64 0) (.int .i64 0) (.int .i64 0) (.int .i64 0) (.int .i64 0) heW (Nat.le_succ w.heap.size)) (show w.heap.size ≤ w.heap.size + 1 + 1 by omega)
  obtain ⟨⟨e0, e1, e2, e3, e4⟩, _⟩ := hB1.five
  obtain ⟨⟨d0, d1, d2, d3, d4⟩, _⟩ := hB2.five
  obtain ⟨⟨c0, c1, c2, c3, c4⟩, ⟨f0, f1, f2, f3, f4⟩⟩ := Blk.five HB1
  obtain ⟨⟨x0, x1, x2, x3, x4⟩, ⟨y0, y1, y2, y3, y4⟩⟩ := Blk.five HB2
  clear hB1 hB2
  clear HB1 HB2 heW HC he1
  go_wp2_with fail
  refine bodyPost_ret (by simp [results, Try.results15, go_sem, e0, e1, e2, e3, e4, d0, d1, d2, d3, d4]; try rfl) rfl ?_
  exact ⟨by rw [← HT.out]; rfl, hend⟩
set_option maxRecDepth 20000 in
set_option maxHeartbeats 8000000 in
theorem await_105_no {f r o s k : Int} (n119 : k ≠ 119) (n87 : k ≠ 87) (n40 : k ≠ 40) (n41 : k ≠ 41) (n91 : k ≠ 91) (n93 : k ≠ 93) (n123 : k ≠ 123) (n125 : k ≠ 125) (n34 : k ≠ 34) (n39 : k ≠ 39) (n96 : k ≠ 96) (w : World) : Calls Try.prog 15 #[ptV ⟨f, r, o, s, 105⟩, .int .i64 k] w fun e w' => e = .returned (tkV wrongT) ∧ Ext w w' := by
  have b119 : (k == 119) = false := by simpa using n119
  have b87 : (k == 87) = false := by simpa using n87
  have b40 : (k == 40) = false := by simpa using n40
  have b41 : (k == 41) = false := by simpa using n41
  have b91 : (k == 91) = false := by simpa using n91
  have b93 : (k == 93) = false := by simpa using n93
  have b123 : (k == 123) = false := by simpa using n123
  have b125 : (k == 125) = false := by simpa using n125
  have b34 : (k == 34) = false := by simpa using n34
  have b39 : (k == 39) = false := by simpa using n39
  have b96 : (k == 96) = false := by simpa using n96
  clear n119 n87 n40 n41 n91 n93 n123 n125 n34 n39 n96
  unfold ptV
  simp only
  go_enter Try.func15, Try.ntmps15
  go_wp2_with fail
  obtain ⟨_, hB1, hB2, hend⟩ := three (w := w) (.int .i64 f) (.int .i64 r) (.int .i64 o) (.int .i64 s) (.int .i64 105) (.int .i64 0) (.int .i64 0) (.int .i64 0) (.int .i64 0) (.int .i64 0) (.int .i64 0) (.int .i64 0) (.int .i64 0) (.int .i64 0) (.int .i64 0)
  obtain ⟨⟨e0, e1, e2, e3, e4⟩, _⟩ := hB1.five
  obtain ⟨⟨d0, d1, d2, d3, d4⟩, _⟩ := hB2.five
  refine bodyPost_ret (by simp [results, Try.results15, go_sem, e0, e1, e2, e3, e4, d0, d1, d2, d3, d4]; try rfl) rfl ?_
  exact ⟨rfl, hend⟩
set_option maxRecDepth 20000 in
set_option maxHeartbeats 8000000 in
theorem await_97_119 {f r o s : Int} (hf : 0 ≤ f ∧ f ≤ 999) (hs : 0 ≤ s ∧ s ≤ 999) (w : World) : Calls Try.prog 15 #[ptV ⟨f, r, o, s, 97⟩, .int .i64 119] w fun e w' => e = .returned (tkV ⟨Pt.zero, cmdF ⟨f, r, o, s, 97⟩ 97 119, 2⟩) ∧ Ext w w' := by
  obtain ⟨hb0, hb1, hb2, hx⟩ := three (w := w) (.int .i64 f) (.int .i64 r) (.int .i64 o) (.int .i64 s) (.int .i64 97) (.int .i64 0) (.int .i64 0) (.int .i64 0) (.int .i64 0) (.int .i64 0) (.int .i64 0) (.int .i64 0) (.int .i64 0) (.int .i64 0) (.int .i64 0)
  have HC : Hid (∀ wq : World, _) := Lib.hid fun (wq : World) => command_ok ⟨f, r, o, s, 97⟩ 97 119 wq hf hs
  unfold ptV cmV at HC
  simp only at HC
  unfold cmdF at HC
  simp only at HC
  obtain ⟨tot, ht⟩ : ∃ tot, totF ⟨f, r, o, s, 97⟩ = tot := ⟨_, rfl⟩
  rw [ht] at HC
  have HT := Lib.hid ht
  clear ht hf hs
  unfold ptV
  simp only
  go_enter Try.func15, Try.ntmps15
  go_wp2_with fail
  refine (HC.out _).mono ?_
  rintro e w1 ⟨rfl, he1⟩
  have HB1 := hb1.ext he1
  have HB2 := hb2.ext he1
  have heW := hx.trans he1
  clear hb0 hb1 hb2 hx
  have hB1 := set5_other (.int .i64 tot) (.int .i64 r) (.int .i64 o) (.int .i64 97) (.int .i64 119) (set5 (.int .i64 0) (.int .i64 0) (.int .i64 0) (.int .i64 0) (.int .i64 0) HB1) (show w.heap.size + 1 + 1 ≠ w.heap.size + 1 by omega)
  have hB2 := set5 (.int .i64 tot) (.int .i64 r) (.int .i64 o) (.int .i64 97) (.int .i64 119) (set5_other (.int .i64 0) (.int .i64 0) (.int .i64 0) (.int .i64 0) (.int .i64 0) HB2 (show w.heap.size + 1 ≠ w.heap.size + 1 + 1 by omega))
  have hend := set5_ext (.int .i64 tot) (.int .i64 r) (.int .i64 o) (.int .i64 97) (.int .i64 119) (set5_ext (.int .i64 0) (.int .i64 0) (.int .i64 0) (.int .i64 0) (.int .i64 0) heW (Nat.le_succ w.heap.size)) (show w.heap.size ≤ w.heap.size + 1 + 1 by omega)
  obtain ⟨⟨e0, e1, e2, e3, e4⟩, _⟩ := hB1.five
  obtain ⟨⟨d0, d1, d2, d3, d4⟩, _⟩ := hB2.five
  obtain ⟨⟨c0, c1, c2, c3, c4⟩, ⟨f0, f1, f2, f3, f4⟩⟩ := Blk.five HB1
  obtain ⟨⟨x0, x1, x2, x3, x4⟩, ⟨y0, y1, y2, y3, y4⟩⟩ := Blk.five HB2
  clear hB1 hB2
  clear HB1 HB2 heW HC he1
  go_wp2_with fail
  refine bodyPost_ret (by simp [results, Try.results15, go_sem, e0, e1, e2, e3, e4, d0, d1, d2, d3, d4]; try rfl) rfl ?_
  exact ⟨by rw [← HT.out]; rfl, hend⟩
set_option maxRecDepth 20000 in
set_option maxHeartbeats 8000000 in
theorem await_97_87 {f r o s : Int} (hf : 0 ≤ f ∧ f ≤ 999) (hs : 0 ≤ s ∧ s ≤ 999) (w : World) : Calls Try.prog 15 #[ptV ⟨f, r, o, s, 97⟩, .int .i64 87] w fun e w' => e = .returned (tkV ⟨Pt.zero, cmdF ⟨f, r, o, s, 97⟩ 97 87, 2⟩) ∧ Ext w w' := by
  obtain ⟨hb0, hb1, hb2, hx⟩ := three (w := w) (.int .i64 f) (.int .i64 r) (.int .i64 o) (.int .i64 s) (.int .i64 97) (.int .i64 0) (.int .i64 0) (.int .i64 0) (.int .i64 0) (.int .i64 0) (.int .i64 0) (.int .i64 0) (.int .i64 0) (.int .i64 0) (.int .i64 0)
  have HC : Hid (∀ wq : World, _) := Lib.hid fun (wq : World) => command_ok ⟨f, r, o, s, 97⟩ 97 87 wq hf hs
  unfold ptV cmV at HC
  simp only at HC
  unfold cmdF at HC
  simp only at HC
  obtain ⟨tot, ht⟩ : ∃ tot, totF ⟨f, r, o, s, 97⟩ = tot := ⟨_, rfl⟩
  rw [ht] at HC
  have HT := Lib.hid ht
  clear ht hf hs
  unfold ptV
  simp only
  go_enter Try.func15, Try.ntmps15
  go_wp2_with fail
  refine (HC.out _).mono ?_
  rintro e w1 ⟨rfl, he1⟩
  have HB1 := hb1.ext he1
  have HB2 := hb2.ext he1
  have heW := hx.trans he1
  clear hb0 hb1 hb2 hx
  have hB1 := set5_other (.int .i64 tot) (.int .i64 r) (.int .i64 o) (.int .i64 97) (.int .i64 87) (set5 (.int .i64 0) (.int .i64 0) (.int .i64 0) (.int .i64 0) (.int .i64 0) HB1) (show w.heap.size + 1 + 1 ≠ w.heap.size + 1 by omega)
  have hB2 := set5 (.int .i64 tot) (.int .i64 r) (.int .i64 o) (.int .i64 97) (.int .i64 87) (set5_other (.int .i64 0) (.int .i64 0) (.int .i64 0) (.int .i64 0) (.int .i64 0) HB2 (show w.heap.size + 1 ≠ w.heap.size + 1 + 1 by omega))
  have hend := set5_ext (.int .i64 tot) (.int .i64 r) (.int .i64 o) (.int .i64 97) (.int .i64 87) (set5_ext (.int .i64 0) (.int .i64 0) (.int .i64 0) (.int .i64 0) (.int .i64 0) heW (Nat.le_succ w.heap.size)) (show w.heap.size ≤ w.heap.size + 1 + 1 by omega)
  obtain ⟨⟨e0, e1, e2, e3, e4⟩, _⟩ := hB1.five
  obtain ⟨⟨d0, d1, d2, d3, d4⟩, _⟩ := hB2.five
  obtain ⟨⟨c0, c1, c2, c3, c4⟩, ⟨f0, f1, f2, f3, f4⟩⟩ := Blk.five HB1
  obtain ⟨⟨x0, x1, x2, x3, x4⟩, ⟨y0, y1, y2, y3, y4⟩⟩ := Blk.five HB2
  clear hB1 hB2
  clear HB1 HB2 heW HC he1
  go_wp2_with fail
  refine bodyPost_ret (by simp [results, Try.results15, go_sem, e0, e1, e2, e3, e4, d0, d1, d2, d3, d4]; try rfl) rfl ?_
  exact ⟨by rw [← HT.out]; rfl, hend⟩
set_option maxRecDepth 20000 in
set_option maxHeartbeats 8000000 in
theorem await_97_40 {f r o s : Int} (hf : 0 ≤ f ∧ f ≤ 999) (hs : 0 ≤ s ∧ s ≤ 999) (w : World) : Calls Try.prog 15 #[ptV ⟨f, r, o, s, 97⟩, .int .i64 40] w fun e w' => e = .returned (tkV ⟨Pt.zero, cmdF ⟨f, r, o, s, 97⟩ 97 40, 2⟩) ∧ Ext w w' := by
  obtain ⟨hb0, hb1, hb2, hx⟩ := three (w := w) (.int .i64 f) (.int .i64 r) (.int .i64 o) (.int .i64 s) (.int .i64 97) (.int .i64 0) (.int .i64 0) (.int .i64 0) (.int .i64 0) (.int .i64 0) (.int .i64 0) (.int .i64 0) (.int .i64 0) (.int .i64 0) (.int .i64 0)
  have HC : Hid (∀ wq : World, _) := Lib.hid fun (wq : World) => command_ok ⟨f, r, o, s, 97⟩ 97 40 wq hf hs
  unfold ptV cmV at HC
  simp only at HC
  unfold cmdF at HC
  simp only at HC
  obtain ⟨tot, ht⟩ : ∃ tot, totF ⟨f, r, o, s, 97⟩ = tot := ⟨_, rfl⟩
  rw [ht] at HC
  have HT := Lib.hid ht
  clear ht hf hs
  unfold ptV
  simp only
  go_enter Try.func15, Try.ntmps15
  go_wp2_with fail
  refine (HC.out _).mono ?_
  rintro e w1 ⟨rfl, he1⟩
  have HB1 := hb1.ext he1
  have HB2 := hb2.ext he1
  have heW := hx.trans he1
  clear hb0 hb1 hb2 hx
  have hB1 := set5_other (.int .i64 tot) (.int .i64 r) (.int .i64 o) (.int .i64 97) (.int .i64 40) (set5 (.int .i64 0) (.int .i64 0) (.int .i64 0) (.int .i64 0) (.int .i64 0) HB1) (show w.heap.size + 1 + 1 ≠ w.heap.size + 1 by omega)
  have hB2 := set5 (.int .i64 tot) (.int .i64 r) (.int .i64 o) (.int .i64 97) (.int .i64 40) (set5_other (.int .i64 0) (.int .i64 0) (.int .i64 0) (.int .i64 0) (.int .i64 0) HB2 (show w.heap.size + 1 ≠ w.heap.size + 1 + 1 by omega))
  have hend := set5_ext (.int .i64 tot) (.int .i64 r) (.int .i64 o) (.int .i64 97) (.int .i64 40) (set5_ext (.int .i64 0) (.int .i64 0) (.int .i64 0) (.int .i64 0) (.int .i64 0) heW (Nat.le_succ w.heap.size)) (show w.heap.size ≤ w.heap.size + 1 + 1 by omega)
  obtain ⟨⟨e0, e1, e2, e3, e4⟩, _⟩ := hB1.five
  obtain ⟨⟨d0, d1, d2, d3, d4⟩, _⟩ := hB2.five
  obtain ⟨⟨c0, c1, c2, c3, c4⟩, ⟨f0, f1, f2, f3, f4⟩⟩ := Blk.five HB1
  obtain ⟨⟨x0, x1, x2, x3, x4⟩, ⟨y0, y1, y2, y3, y4⟩⟩ := Blk.five HB2
  clear hB1 hB2
  clear HB1 HB2 heW HC he1
  go_wp2_with fail
  refine bodyPost_ret (by simp [results, Try.results15, go_sem, e0, e1, e2, e3, e4, d0, d1, d2, d3, d4]; try rfl) rfl ?_
  exact ⟨by rw [← HT.out]; rfl, hend⟩
set_option maxRecDepth 20000 in
set_option maxHeartbeats 8000000 in
theorem await_97_41 {f r o s : Int} (hf : 0 ≤ f ∧ f ≤ 999) (hs : 0 ≤ s ∧ s ≤ 999) (w : World) : Calls Try.prog 15 #[ptV ⟨f, r, o, s, 97⟩, .int .i64 41] w fun e w' => e = .returned (tkV ⟨Pt.zero, cmdF ⟨f, r, o, s, 97⟩ 97 41, 2⟩) ∧ Ext w w' := by
  obtain ⟨hb0, hb1, hb2, hx⟩ := three (w := w) (.int .i64 f) (.int .i64 r) (.int .i64 o) (.int .i64 s) (.int .i64 97) (.int .i64 0) (.int .i64 0) (.int .i64 0) (.int .i64 0) (.int .i64 0) (.int .i64 0) (.int .i64 0) (.int .i64 0) (.int .i64 0) (.int .i64 0)
  have HC : Hid (∀ wq : World, _) := Lib.hid fun (wq : World) => command_ok ⟨f, r, o, s, 97⟩ 97 41 wq hf hs
  unfold ptV cmV at HC
  simp only at HC
  unfold cmdF at HC
  simp only at HC
  obtain ⟨tot, ht⟩ : ∃ tot, totF ⟨f, r, o, s, 97⟩ = tot := ⟨_, rfl⟩
  rw [ht] at HC
  have HT := Lib.hid ht
  clear ht hf hs
  unfold ptV
  simp only
  go_enter Try.func15, Try.ntmps15
  go_wp2_with fail
  refine (HC.out _).mono ?_
  rintro e w1 ⟨rfl, he1⟩
  have HB1 := hb1.ext he1
  have HB2 := hb2.ext he1
  have heW := hx.trans he1
  clear hb0 hb1 hb2 hx
  have hB1 := set5_other (.int .i64 tot) (.int .i64 r) (.int .i64 o) (.int .i64 97) (.int .i64 41) (set5 (.int .i64 0) (.int .i64 0) (.int .i64 0) (.int .i64 0) (.int .i64 0) HB1) (show w.heap.size + 1 + 1 ≠ w.heap.size + 1 by omega)
  have hB2 := set5 (.int .i64 tot) (.int .i64 r) (.int .i64 o) (.int .i64 97) (.int .i64 41) (set5_other (.int .i64 0) (.int .i64 0) (.int .i64 0) (.int .i64 0) (.int .i64 0) HB2 (show w.heap.size + 1 ≠ w.heap.size + 1 + 1 by omega))
  have hend := set5_ext (.int .i64 tot) (.int .i64 r) (.int .i64 o) (.int .i64 97) (.int .i64 41) (set5_ext (.int .i64 0) (.int .i64 0) (.int .i64 0) (.int .i64 0) (.int .i64 0) heW (Nat.le_succ w.heap.size)) (show w.heap.size ≤ w.heap.size + 1 + 1 by omega)
  obtain ⟨⟨e0, e1, e2, e3, e4⟩, _⟩ := hB1.five
  obtain ⟨⟨d0, d1, d2, d3, d4⟩, _⟩ := hB2.five
  obtain ⟨⟨c0, c1, c2, c3, c4⟩, ⟨f0, f1, f2, f3, f4⟩⟩ := Blk.five HB1
  obtain ⟨⟨x0, x1, x2, x3, x4⟩, ⟨y0, y1, y2, y3, y4⟩⟩ := Blk.five HB2
  clear hB1 hB2
  clear HB1 HB2 heW HC he1
  go_wp2_with fail
  refine bodyPost_ret (by simp [results, Try.results15, go_sem, e0, e1, e2, e3, e4, d0, d1, d2, d3, d4]; try rfl) rfl ?_
  exact ⟨by rw [← HT.out]; rfl, hend⟩
set_option maxRecDepth 20000 in
set_option maxHeartbeats 8000000 in
theorem await_97_91 {f r o s : Int} (hf : 0 ≤ f ∧ f ≤ 999) (hs : 0 ≤ s ∧ s ≤ 999) (w : World) : Calls Try.prog 15 #[ptV ⟨f, r, o, s, 97⟩, .int .i64 91] w fun e w' => e = .returned (tkV ⟨Pt.zero, cmdF ⟨f, r, o, s, 97⟩ 97 91, 2⟩) ∧ Ext w w' := by
  obtain ⟨hb0, hb1, hb2, hx⟩ := three (w := w) (.int .i64 f) (.int .i64 r) (.int .i64 o) (.int .i64 s) (.int .i64 97) (.int .i64 0) (.int .i64 0) (.int .i64 0) (.int .i64 0) (.int .i64 0) (.int .i64 0) (.int .i64 0) (.int .i64 0) (.int .i64 0) (.int .i64 0)
  have HC : Hid (∀ wq : World, _) := Lib.hid fun (wq : World) => command_ok ⟨f, r, o, s, 97⟩ 97 91 wq hf hs
  unfold ptV cmV at HC
  simp only at HC
  unfold cmdF at HC
  simp only at HC
  obtain ⟨tot, ht⟩ : ∃ tot, totF ⟨f, r, o, s, 97⟩ = tot := ⟨_, rfl⟩
  rw [ht] at HC
  have HT := Lib.hid ht
  clear ht hf hs
  unfold ptV
  simp only
  go_enter Try.func15, Try.ntmps15
  go_wp2_with fail
  refine (HC.out _).mono ?_
  rintro e w1 ⟨rfl, he1⟩
  have HB1 := hb1.ext he1
  have HB2 := hb2.ext he1
  have heW := hx.trans he1
  clear hb0 hb1 hb2 hx
  have hB1 := set5_other (.int .i64 tot) (.int .i64 r) (.int .i64 o) (.int .i64 97) (.int .i64 91) (set5 (.int .i64 0) (.int .i64 0) (.int .i64 0) (.int .i64 0) (.int .i64 0) HB1) (show w.heap.size + 1 + 1 ≠ w.heap.size + 1 by omega)
  have hB2 := set5 (.int .i64 tot) (.int .i64 r) (.int .i64 o) (.int .i64 97) (.int .i64 91) (set5_other (.int .i64 0) (.int .i64 0) (.int .i64 0) (.int .i64 0) (.int .i64 0) HB2 (show w.heap.size + 1 ≠ w.heap.size + 1 + 1 by omega))
  have hend := set5_ext (.int .i64 tot) (.int .i64 r) (.int .i64 o) (.int .i64 97) (.int .i64 91) (set5_ext (.int .i64 0) (.int .i64 0) (.int .i64 0) (.int .i64 0) (.int .i64 0) heW (Nat.le_succ w.heap.size)) (show w.heap.size ≤ w.heap.size + 1 + 1 by omega)
  obtain ⟨⟨e0, e1, e2, e3, e4⟩, _⟩ := hB1.five
  obtain ⟨⟨d0, d1, d2, d3, d4⟩, _⟩ := hB2.five
  obtain ⟨⟨c0, c1, c2, c3, c4⟩, ⟨f0, f1, f2, f3, f4⟩⟩ := Blk.five HB1
  obtain ⟨⟨x0, x1, x2, x3, x4⟩, ⟨y0, y1, y2, y3, y4⟩⟩ := Blk.five HB2
  clear hB1 hB2
  clear HB1 HB2 heW HC he1
  go_wp2_with fail
  refine bodyPost_ret (by simp [results, Try.results15, go_sem, e0, e1, e2, e3, e4, d0, d1, d2, d3, d4]; try rfl) rfl ?_
  exact ⟨by rw [← HT.out]; rfl, hend⟩
set_option maxRecDepth 20000 in
set_option maxHeartbeats 8000000 in
theorem await_97_93 {f r o s : Int} (hf : 0 ≤ f ∧ f ≤ 999) (hs : 0 ≤ s ∧ s ≤ 999) (w : World) : Calls Try.prog 15 #[ptV ⟨f, r, o, s, 97⟩, .int .i64 93] w fun e w' => e = .returned (tkV ⟨Pt.zero, cmdF ⟨f, r, o, s, 97⟩ 97 93, 2⟩) ∧ Ext w w' := by
  obtain ⟨hb0, hb1, hb2, hx⟩ := three (w := w) (.int .i64 f) (.int .i64 r) (.int .i64 o) (.int .i64 s) (.int .i64 97) (.int .i64 0) (.int .i64 0) (.int .i64 0) (.int .i64 0) (.int .i64 0) (.int .i64 0) (.int .i64 0) (.int .i64 0) (.int .i64 0) (.int .i64 0)
  have HC : Hid (∀ wq : World, _) := Lib.hid fun (wq : World) => command_ok ⟨f, r, o, s, 97⟩ 97 93 wq hf hs
  unfold ptV cmV at HC
  simp only at HC
  unfold cmdF at HC
  simp only at HC
  obtain ⟨tot, ht⟩ : ∃ tot, totF ⟨f, r, o, s, 97⟩ = tot := ⟨_, rfl⟩
  rw [ht] at HC
  have HT := Lib.hid ht
  clear ht hf hs
  unfold ptV
  simp only
  go_enter Try.func15, Try.ntmps15
  go_wp2_with fail
  refine (HC.out _).mono ?_
  rintro e w1 ⟨rfl, he1⟩
  have HB1 := hb1.ext he1
  have HB2 := hb2.ext he1
  have heW := hx.trans he1
  clear hb0 hb1 hb2 hx
  have hB1 := set5_other (.int .i64 tot) (.int .i64 r) (.int .i64 o) (.int .i64 97) (.int .i64 93) (set5 (.int .i64 0) (.int .i64 0) (.int .i64 0) (.int .i64 0) (.int .i64 0) HB1) (show w.heap.size + 1 + 1 ≠ w.heap.size + 1 by omega)
  have hB2 := set5 (.int .i64 tot) (.int .i64 r) (.int .i64 o) (.int .i64 97) (.int .i64 93) (set5_other (.int .i64 0) (.int .i64 0) (.int .i64 0) (.int .i64 0) (.int .i64 0) HB2 (show w.heap.size + 1 ≠ w.heap.size + 1 + 1 by omega))
  have hend := set5_ext (.int .i64 tot) (.int .i64 r) (.int .i64 o) (.int .i64 97) (.int .i64 93) (set5_ext (.int .i64 0) (.int .i64 0) (.int .i64 0) (.int .i64 0) (.int .i64 0) heW (Nat.le_succ w.heap.size)) (show w.heap.size ≤ w.heap.size + 1 + 1 by omega)
  obtain ⟨⟨e0, e1, e2, e3, e4⟩, _⟩ := hB1.five
  obtain ⟨⟨d0, d1, d2, d3, d4⟩, _⟩ := hB2.five
  obtain ⟨⟨c0, c1, c2, c3, c4⟩, ⟨f0, f1, f2, f3, f4⟩⟩ := Blk.five HB1
  obtain ⟨⟨x0, x1, x2, x3, x4⟩, ⟨y0, y1, y2, y3, y4⟩⟩ := Blk.five HB2
  clear hB1 hB2
  clear HB1 HB2 heW HC he1
  go_wp2_with fail
  refine bodyPost_ret (by simp [results, Try.results15, go_sem, e0, e1, e2, e3, e4, d0, d1, d2, d3, d4]; try rfl) rfl ?_
  exact ⟨by rw [← HT.out]; rfl, hend⟩
set_option maxRecDepth 20000 in
set_option maxHeartbeats 8000000 in
theorem await_97_123 {f r o s : Int} (hf : 0 ≤ f ∧ f ≤ 999) (hs : 0 ≤ s ∧ s ≤ 999) (w : World) : Calls Try.prog 15 #[ptV ⟨f, r, o, s, 97⟩, .int .i64 123] w fun e w' => e = .returned (tkV ⟨Pt.zero, cmdF ⟨f, r, o, s, 97⟩ 97 123, 2⟩) ∧ Ext w w' := by
  obtain ⟨hb0, hb1, hb2, hx⟩ := three (w := w) (.int .i64 f) (.int .i64 r) (.int .i64 o) (.int .i64 s) (.int .i64 97) (.int .i64 0) (.int .i64 0) (.int .i64 0) (.int .i64 0) (.int .i64 0) (.int .i64 0) (.int .i64 0) (.int .i64 0) (.int .i64 0) (.int .i64 0)
  have HC : Hid (∀ wq : World, _) := Lib.hid fun (wq : World) => command_ok ⟨f, r, o, s, 97⟩ 97 123 wq hf hs
  unfold ptV cmV at HC
  simp only at HC
  unfold cmdF at HC
  simp only at HC
  obtain ⟨tot, ht⟩ : ∃ tot, totF ⟨f, r, o, s, 97⟩ = tot := ⟨_, rfl⟩
  rw [ht] at HC
  have HT := Lib.hid ht
  clear ht hf hs
  unfold ptV
  simp only
  go_enter Try.func15, Try.ntmps15
  go_wp2_with fail
  refine (HC.out _).mono ?_
  rintro e w1 ⟨rfl, he1⟩
  have HB1 := hb1.ext he1
  have HB2 := hb2.ext he1
  have heW := hx.trans he1
  clear hb0 hb1 hb2 hx
  have hB1 := set5_other (.int .i64 tot) (.int .i64 r) (.int .i64 o) (.int .i64 97) (.int .i64 123) (set5 (.int .i64 0) (.int .i64 0) (.int .i64 0) (.int .i64 0) (.int .i64 0) HB1) (show w.heap.size + 1 + 1 ≠ w.heap.size + 1 by omega)
  have hB2 := set5 (.int .i64 tot) (.int .i64 r) (.int .i64 o) (.int .i64 97) (.int .i64 123) (set5_other (.int .i64 0) (.int .i64 0) (.int .i64 0) (.int .i64 0) (.int .i64 0) HB2 (show w.heap.size + 1 ≠ w.heap.size + 1 + 1 by omega))
  have hend := set5_ext (.int .i64 tot) (.int .i64 r) (.int .i64 o) (.int .i64 97) (.int .i64 123) (set5_ext (.int .i64 0) (.int .i64 0) (.int .i64 0) (.int .i64 0) (.int .i64 0) heW (Nat.le_succ w.heap.size)) (show w.heap.size ≤ w.heap.size + 1 + 1 by omega)
  obtain ⟨⟨e0, e1, e2, e3, e4⟩, _⟩ := hB1.five
  obtain ⟨⟨d0, d1, d2, d3, d4⟩, _⟩ := hB2.five
  obtain ⟨⟨c0, c1, c2, c3, c4⟩, ⟨f0, f1, f2, f3, f4⟩⟩ := Blk.five HB1
  obtain ⟨⟨x0, x1, x2, x3, x4⟩, ⟨y0, y1, y2, y3, y4⟩⟩ := Blk.five HB2
  clear hB1 hB2
  clear HB1 HB2 heW HC he1
  go_wp2_with fail
  refine bodyPost_ret (by simp [results, Try.results15, go_sem, e0, e1, e2, e3, e4, d0, d1, d2, d3, d4]; try rfl) rfl ?_
  exact ⟨by rw [← HT.out]; rfl, hend⟩
set_option maxRecDepth 20000 in
set_option maxHeartbeats 8000000 in
theorem await_97_125 {f r o s : Int} (hf : 0 ≤ f ∧ f ≤ 999) (hs : 0 ≤ s ∧ s ≤ 999) (w : World) : Calls Try.prog 15 #[ptV ⟨f, r, o, s, 97⟩, .int .i64 125] w fun e w' => e = .returned (tkV ⟨Pt.zero, cmdF ⟨f, r, o, s, 97⟩ 97 125, 2⟩) ∧ Ext w w' := by
  obtain ⟨hb0, hb1, hb2, hx⟩ := three (w := w) (.int .i64 f) (.int .i64 r) (.int .i64 o) (.int .i64 s) (.int .i64 97) (.int .i64 0) (.int .i64 0) (.int .i64 0) (.int .i64 0) (.int .i64 0) (.int .i64 0) (.int .i64 0) (.int .i64 0) (.int .i64 0) (.int .i64 0)
  have HC : Hid (∀ wq : World, _) := Lib.hid fun (wq : World) => command_ok ⟨f, r, o, s, 97⟩ 97 125 wq hf hs
  unfold ptV cmV at HC
  simp only at HC
  unfold cmdF at HC
  simp only at HC
  obtain ⟨tot, ht⟩ : ∃ tot, totF ⟨f, r, o, s, 97⟩ = tot := ⟨_, rfl⟩
  rw [ht] at HC
  have HT := Lib.hid ht
  clear ht hf hs
  unfold ptV
  simp only
  go_enter Try.func15, Try.ntmps15
  go_wp2_with fail
  refine (HC.out _).mono ?_
  rintro e w1 ⟨rfl, he1⟩
  have HB1 := hb1.ext he1
  have HB2 := hb2.ext he1
  have heW := hx.trans he1
  clear hb0 hb1 hb2 hx
  have hB1 := set5_other (.int .i64 tot) (.int .i64 r) (.int .i64 o) (.int .i64 97) (.int .i64 125) (set5 (.int .i64 0) (.int .i64 0) (.int .i64 0) (.int .i64 0) (.int .i64 0) HB1) (show w.heap.size + 1 + 1 ≠ w.heap.size + 1 by omega)
  have hB2 := set5 (.int .i64 tot) (.int .i64 r) (.int .i64 o) (.int .i64 97) (.int .i64 125) (set5_other (.int .i64 0) (.int .i64 0) (.int .i64 0) (.int .i64 0) (.int .i64 0) HB2 (show w.heap.size + 1 ≠ w.heap.size + 1 + 1 by omega))
  have hend := set5_ext (.int .i64 tot) (.int .i64 r) (.int .i64 o) (.int .i64 97) (.int .i64 125) (set5_ext (.int .i64 0) (.int .i64 0) (.int .i64 0) (.int .i64 0) (.int .i64 0) heW (Nat.le_succ w.heap.size)) (show w.heap.size ≤ w.heap.size + 1 + 1 by omega)
  obtain ⟨⟨e0, e1, e2, e3, e4⟩, _⟩ := hB1.five
  obtain ⟨⟨d0, d1, d2, d3, d4⟩, _⟩ := hB2.five
  obtain ⟨⟨c0, c1, c2, c3, c4⟩, ⟨f0, f1, f2, f3, f4⟩⟩ := Blk.five HB1
  obtain ⟨⟨x0, x1, x2, x3, x4⟩, ⟨y0, y1, y2, y3, y4⟩⟩ := Blk.five HB2
  clear hB1 hB2
  clear HB1 HB2 heW HC he1
  go_wp2_with fail
  refine bodyPost_ret (by simp [results, Try.results15, go_sem, e0, e1, e2, e3, e4, d0, d1, d2, d3, d4]; try rfl) rfl ?_
  exact ⟨by rw [← HT.out]; rfl, hend⟩
set_option maxRecDepth 20000 in
set_option maxHeartbeats 8000000 in
theorem await_97_34 {f r o s : Int} (hf : 0 ≤ f ∧ f ≤ 999) (hs : 0 ≤ s ∧ s ≤ 999) (w : World) : Calls Try.prog 15 #[ptV ⟨f, r, o, s, 97⟩, .int .i64 34] w fun e w' => e = .returned (tkV ⟨Pt.zero, cmdF ⟨f, r, o, s, 97⟩ 97 34, 2⟩) ∧ Ext w w' := by
  obtain ⟨hb0, hb1, hb2, hx⟩ := three (w := w) (.int .i64 f) (.int .i64 r) (.int .i64 o) (.int .i64 s) (.int .i64 97) (.int .i64 0) (.int .i64 0) (.int .i64 0) (.int .i64 0) (.int .i64 0) (.int .i64 0) (.int .i64 0) (.int .i64 0) (.int .i64 0) (.int .i64 0)
  have HC : Hid (∀ wq : World, _) := Lib.hid fun (wq : World) => command_ok ⟨f, r, o, s, 97⟩ 97 34 wq hf hs
  unfold ptV cmV at HC
  simp only at HC
  unfold cmdF at HC
  simp only at HC
  obtain ⟨tot, ht⟩ : ∃ tot, totF ⟨f, r, o, s, 97⟩ = tot := ⟨_, rfl⟩
  rw [ht] at HC
  have HT := Lib.hid ht
  clear ht hf hs
  unfold ptV
  simp only
  go_enter Try.func15, Try.ntmps15
  go_wp2_with fail
  refine (HC.out _).mono ?_
  rintro e w1 ⟨rfl, he1⟩
  have HB1 := hb1.ext he1
  have HB2 := hb2.ext he1
  have heW := hx.trans he1
  clear hb0 hb1 hb2 hx
  have hB1 := set5_other (.int .i64 tot) (.int .i64 r) (.int .i64 o) (.int .i64 97) (.int .i64 34) (set5 (.int .i64 0) (.int .i64 0) (.int .i64 0) (.int .i64 0) (.int .i64 0) HB1) (show w.heap.size + 1 + 1 ≠ w.heap.size + 1 by omega)
  have hB2 := set5 (.int .i64 tot) (.int .i64 r) (.int .i64 o) (.int .i64 97) (.int .i64 34) (set5_other (.int .i64 0) (.int .i64 0) (.int .i64 0) (.int .i64 0) (.int .i64 0) HB2 (show w.heap.size + 1 ≠ w.heap.size + 1 + 1 by omega))
  have hend := set5_ext (.int .i64 tot) (.int .i64 r) (.int .i64 o) (.int .i64 97) (.int .i64 34) (set5_ext (.int .i64 0) (.int .i64 0) (.int .i64 0) (.int .i64 0) (.int .i64 0) heW (Nat.le_succ w.heap.size)) (show w.heap.size ≤ w.heap.size + 1 + 1 by omega)
  obtain ⟨⟨e0, e1, e2, e3, e4⟩, _⟩ := hB1.five
  obtain ⟨⟨d0, d1, d2, d3, d4⟩, _⟩ := hB2.five
  obtain ⟨⟨c0, c1, c2, c3, c4⟩, ⟨f0, f1, f2, f3, f4⟩⟩ := Blk.five HB1
  obtain ⟨⟨x0, x1, x2, x3, x4⟩, ⟨y0, y1, y2, y3, y4⟩⟩ := Blk.five HB2
  clear hB1 hB2
  clear HB1 HB2 heW HC he1
  go_wp2_with fail
  refine bodyPost_ret (by simp [results, Try.results15, go_sem, e0, e1, e2, e3, e4, d0, d1, d2, d3, d4]; try rfl) rfl ?_
  exact ⟨by rw [← HT.out]; rfl, hend⟩
set_option maxRecDepth 20000 in
set_option maxHeartbeats 8000000 in
theorem await_97_39 {f r o s : Int} (hf : 0 ≤ f ∧ f ≤ 999) (hs : 0 ≤ s ∧ s ≤ 999) (w : World) : Calls Try.prog 15 #[ptV ⟨f, r, o, s, 97⟩, .int .i64 39] w fun e w' => e = .returned (tkV ⟨Pt.zero, cmdF ⟨f, r, o, s, 97⟩ 97 39, 2⟩) ∧ Ext w w' := by
  obtain ⟨hb0, hb1, hb2, hx⟩ := three (w := w) (.int .i64 f) (.int .i64 r) (.int .i64 o) (.int .i64 s) (.int .i64 97) (.int .i64 0) (.int .i64 0) (.int .i64 0) (.int .i64 0) (.int .i64 0) (.int .i64 0) (.int .i64 0) (.int .i64 0) (.int .i64 0) (.int .i64 0)
  have HC : Hid (∀ wq : World, _) := Lib.hid fun (wq : World) => command_ok ⟨f, r, o, s, 97⟩ 97 39 wq hf hs
  unfold ptV cmV at HC
  simp only at HC
  unfold cmdF at HC
  simp only at HC
  obtain ⟨tot, ht⟩ : ∃ tot, totF ⟨f, r, o, s, 97⟩ = tot := ⟨_, rfl⟩
  rw [ht] at HC
  have HT := Lib.hid ht
  clear ht hf hs
  unfold ptV
  simp only
  go_enter Try.func15, Try.ntmps15
  go_wp2_with fail
  refine (HC.out _).mono ?_
  rintro e w1 ⟨rfl, he1⟩
  have HB1 := hb1.ext he1
  have HB2 := hb2.ext he1
  have heW := hx.trans he1
  clear hb0 hb1 hb2 hx
  have hB1 := set5_other (.int .i64 tot) (.int .i64 r) (.int .i64 o) (.int .i64 97) (.int .i64 39) (set5 (.int .i64 0) (.int .i64 0) (.int .i64 0) (.int .i64 0) (.int .i64 0) HB1) (show w.heap.size + 1 + 1 ≠ w.heap.size + 1 by omega)
  have hB2 := set5 (.int .i64 tot) (.int .i64 r) (.int .i64 o) (.int .i64 97) (.int .i64 39) (set5_other (.int .i64 0) (.int .i64 0) (.int .i64 0) (.int .i64 0) (.int .i64 0) HB2 (show w.heap.size + 1 ≠ w.heap.size + 1 + 1 by omega))
  have hend := set5_ext (.int .i64 tot) (.int .i64 r) (.int .i64 o) (.int .i64 97) (.int .i64 39) (set5_ext (.int .i64 0) (.int .i64 0) (.int .i64 0) (.int .i64 0) (.int .i64 0) heW (Nat.le_succ w.heap.size)) (show w.heap.size ≤ w.heap.size + 1 + 1 by omega)
  obtain ⟨⟨e0, e1, e2, e3, e4⟩, _⟩ := hB1.five
  obtain ⟨⟨d0, d1, d2, d3, d4⟩, _⟩ := hB2.five
  obtain ⟨⟨c0, c1, c2, c3, c4⟩, ⟨f0, f1, f2, f3, f4⟩⟩ := Blk.five HB1
  obtain ⟨⟨x0, x1, x2, x3, x4⟩, ⟨y0, y1, y2, y3, y4⟩⟩ := Blk.five HB2
  clear hB1 hB2
  clear HB1 HB2 heW HC he1
  go_wp2_with fail
  refine bodyPost_ret (by simp [results, Try.results15, go_sem, e0, e1, e2, e3, e4, d0, d1, d2, d3, d4]; try rfl) rfl ?_
  exact ⟨by rw [← HT.out]; rfl, hend⟩
set_option maxRecDepth 20000 in
set_option maxHeartbeats 8000000 in
theorem await_97_96 {f r o s : Int} (hf : 0 ≤ f ∧ f ≤ 999) (hs : 0 ≤ s ∧ s ≤ 999) (w : World) : Calls Try.prog 15 #[ptV ⟨f, r, o, s, 97⟩, .int .i64 96] w fun e w' => e = .returned (tkV ⟨Pt.zero, cmdF ⟨f, r, o, s, 97⟩ 97 96, 2⟩) ∧ Ext w w' := by
  obtain ⟨hb0, hb1, hb2, hx⟩ := three (w := w) (.int .i64 f) (.int .i64 r) (.int .i64 o) (.int .i64 s) (.int .i64 97) (.int .i64 0) (.int .i64 0) (.int .i64 0) (.int .i64 0) (.int .i64 0) (.int .i64 0) (.int .i64 0) (.int .i64 0) (.int .i64 0) (.int .i64 0)
  have HC : Hid (∀ wq : World, _) := Lib.hid fun (wq : World) => command_ok ⟨f, r, o, s, 97⟩ 97 96 wq hf hs
  unfold ptV cmV at HC
  simp only at HC
  unfold cmdF at HC
  simp only at HC
  obtain ⟨tot, ht⟩ : ∃ tot, totF ⟨f, r, o, s, 97⟩ = tot := ⟨_, rfl⟩
  rw [ht] at HC
  have HT := Lib.hid ht
  clear ht hf hs
  unfold ptV
  simp only
  go_enter Try.func15, Try.ntmps15
  go_wp2_with fail
  refine (HC.out _).mono ?_
  rintro e w1 ⟨rfl, he1⟩
  have HB1 := hb1.ext he1
  have HB2 := hb2.ext he1
  have heW := hx.trans he1
  clear hb0 hb1 hb2 hx
  have hB1 := set5_other (.int .i64 tot) (.int .i64 r) (.int .i64 o) (.int .i64 97) (.int .i64 96) (set5 (.int .i64 0) (.int .i64 0) (.int .i64 0) (.int .i64 0) (.int .i64 0) HB1) (show w.heap.size + 1 + 1 ≠ w.heap.size + 1 by omega)
  have hB2 := set5 (.int .i64 tot) (.int .i64 r) (.int .i64 o) (.int .i64 97) (.int .i64 96) (set5_other (.int .i64 0) (.int .i64 0) (.int .i64 0) (.int .i64 0) (.int .i64 0) HB2 (show w.heap.size + 1 ≠ w.heap.size + 1 + 1 by omega))
  have hend := set5_ext (.int .i64 tot) (.int .i64 r) (.int .i64 o) (.int .i64 97) (.int .i64 96) (set5_ext (.int .i64 0) (.int .i64 0) (.int .i64 0) (.int .i64 0) (.int .i64 0) heW (Nat.le_succ w.heap.size)) (show w.heap.size ≤ w.heap.size + 1 + 1 by omega)
  obtain ⟨⟨e0, e1, e2, e3, e4⟩, _⟩ := hB1.five
  obtain ⟨⟨d0, d1, d2, d3, d4⟩, _⟩ := hB2.five
  obtain ⟨⟨c0, c1, c2, c3, c4⟩, ⟨f0, f1, f2, f3, f4⟩⟩ := Blk.five HB1
  obtain ⟨⟨x0, x1, x2, x3, x4⟩, ⟨y0, y1, y2, y3, y4⟩⟩ := Blk.five HB2
  clear hB1 hB2
  clear HB1 HB2 heW HC he1
  go_wp2_with fail
  refine bodyPost_ret (by simp [results, Try.results15, go_sem, e0, e1, e2, e3, e4, d0, d1, d2, d3, d4]; try rfl) rfl ?_
  exact ⟨by rw [← HT.out]; rfl, hend⟩
set_option maxRecDepth 20000 in
set_option maxHeartbeats 8000000 in
theorem await_97_no {f r o s k : Int} (n119 : k ≠ 119) (n87 : k ≠ 87) (n40 : k ≠ 40) (n41 : k ≠ 41) (n91 : k ≠ 91) (n93 : k ≠ 93) (n123 : k ≠ 123) (n125 : k ≠ 125) (n34 : k ≠ 34) (n39 : k ≠ 39) (n96 : k ≠ 96) (w : World) : Calls Try.prog 15 #[ptV ⟨f, r, o, s, 97⟩, .int .i64 k] w fun e w' => e = .returned (tkV wrongT) ∧ Ext w w' := by
  have b119 : (k == 119) = false := by simpa using n119
  have b87 : (k == 87) = false := by simpa using n87
  have b40 : (k == 40) = false := by simpa using n40
  have b41 : (k == 41) = false := by simpa using n41
  have b91 : (k == 91) = false := by simpa using n91
  have b93 : (k == 93) = false := by simpa using n93
  have b123 : (k == 123) = false := by simpa using n123
  have b125 : (k == 125) = false := by simpa using n125
  have b34 : (k == 34) = false := by simpa using n34
  have b39 : (k == 39) = false := by simpa using n39
  have b96 : (k == 96) = false := by simpa using n96
  clear n119 n87 n40 n41 n91 n93 n123 n125 n34 n39 n96
  unfold ptV
  simp only
  go_enter Try.func15, Try.ntmps15
  go_wp2_with fail
  obtain ⟨_, hB1, hB2, hend⟩ := three (w := w) (.int .i64 f) (.int .i64 r) (.int .i64 o) (.int .i64 s) (.int .i64 97) (.int .i64 0) (.int .i64 0) (.int .i64 0) (.int .i64 0) (.int .i64 0) (.int .i64 0) (.int .i64 0) (.int .i64 0) (.int .i64 0) (.int .i64 0)
  obtain ⟨⟨e0, e1, e2, e3, e4⟩, _⟩ := hB1.five
  obtain ⟨⟨d0, d1, d2, d3, d4⟩, _⟩ := hB2.five
  refine bodyPost_ret (by simp [results, Try.results15, go_sem, e0, e1, e2, e3, e4, d0, d1, d2, d3, d4]; try rfl) rfl ?_
  exact ⟨rfl, hend⟩
theorem awaited_ok {p : Pt} {k : Int} (w : World) (h : chkB p = true) (hw : p.wait ≠ 0) : Calls Try.prog 15 #[ptV p, .int .i64 k] w fun e w' => e = .returned (tkV (awaitF p k)) ∧ Ext w w' := by
  obtain ⟨f, r, o, s, wt⟩ := p
  obtain ⟨h1, h2, h3, h4, h5, hr, ho, hwt⟩ := chk_parts h
  rcases wait_is hwt with rfl | rfl | rfl | rfl | rfl | rfl | rfl | rfl | rfl
  · exact absurd rfl hw
  · exact await_102 ⟨h1, h2⟩ ⟨h3, h4⟩ w
  · exact await_70 ⟨h1, h2⟩ ⟨h3, h4⟩ w
  · exact await_116 ⟨h1, h2⟩ ⟨h3, h4⟩ w
  · exact await_84 ⟨h1, h2⟩ ⟨h3, h4⟩ w
  · exact await_114 ⟨h1, h2⟩ ⟨h3, h4⟩ w
  · cases hl : letB k with
    | true => have e : awaitF ⟨f, r, o, s, 34⟩ k = ⟨⟨f, k, o, s, 0⟩, Cm.zero, 1⟩ := by simp [awaitF, hl]
              rw [e]; exact await_quote hl w
    | false => have e : awaitF ⟨f, r, o, s, 34⟩ k = wrongT := by simp [awaitF, hl]
               rw [e]; exact await_bad hl w
  · by_cases n119 : k = 119
    · subst n119; exact await_105_119 ⟨h1, h2⟩ ⟨h3, h4⟩ w
    by_cases n87 : k = 87
    · subst n87; exact await_105_87 ⟨h1, h2⟩ ⟨h3, h4⟩ w
    by_cases n40 : k = 40
    · subst n40; exact await_105_40 ⟨h1, h2⟩ ⟨h3, h4⟩ w
    by_cases n41 : k = 41
    · subst n41; exact await_105_41 ⟨h1, h2⟩ ⟨h3, h4⟩ w
    by_cases n91 : k = 91
    · subst n91; exact await_105_91 ⟨h1, h2⟩ ⟨h3, h4⟩ w
    by_cases n93 : k = 93
    · subst n93; exact await_105_93 ⟨h1, h2⟩ ⟨h3, h4⟩ w
    by_cases n123 : k = 123
    · subst n123; exact await_105_123 ⟨h1, h2⟩ ⟨h3, h4⟩ w
    by_cases n125 : k = 125
    · subst n125; exact await_105_125 ⟨h1, h2⟩ ⟨h3, h4⟩ w
    by_cases n34 : k = 34
    · subst n34; exact await_105_34 ⟨h1, h2⟩ ⟨h3, h4⟩ w
    by_cases n39 : k = 39
    · subst n39; exact await_105_39 ⟨h1, h2⟩ ⟨h3, h4⟩ w
    by_cases n96 : k = 96
    · subst n96; exact await_105_96 ⟨h1, h2⟩ ⟨h3, h4⟩ w
    have e : awaitF ⟨f, r, o, s, 105⟩ k = wrongT := by simp [awaitF, objB, n119, n87, n40, n41, n91, n93, n123, n125, n34, n39, n96]
    rw [e]; exact await_105_no n119 n87 n40 n41 n91 n93 n123 n125 n34 n39 n96 w
  · by_cases n119 : k = 119
    · subst n119; exact await_97_119 ⟨h1, h2⟩ ⟨h3, h4⟩ w
    by_cases n87 : k = 87
    · subst n87; exact await_97_87 ⟨h1, h2⟩ ⟨h3, h4⟩ w
    by_cases n40 : k = 40
    · subst n40; exact await_97_40 ⟨h1, h2⟩ ⟨h3, h4⟩ w
    by_cases n41 : k = 41
    · subst n41; exact await_97_41 ⟨h1, h2⟩ ⟨h3, h4⟩ w
    by_cases n91 : k = 91
    · subst n91; exact await_97_91 ⟨h1, h2⟩ ⟨h3, h4⟩ w
    by_cases n93 : k = 93
    · subst n93; exact await_97_93 ⟨h1, h2⟩ ⟨h3, h4⟩ w
    by_cases n123 : k = 123
    · subst n123; exact await_97_123 ⟨h1, h2⟩ ⟨h3, h4⟩ w
    by_cases n125 : k = 125
    · subst n125; exact await_97_125 ⟨h1, h2⟩ ⟨h3, h4⟩ w
    by_cases n34 : k = 34
    · subst n34; exact await_97_34 ⟨h1, h2⟩ ⟨h3, h4⟩ w
    by_cases n39 : k = 39
    · subst n39; exact await_97_39 ⟨h1, h2⟩ ⟨h3, h4⟩ w
    by_cases n96 : k = 96
    · subst n96; exact await_97_96 ⟨h1, h2⟩ ⟨h3, h4⟩ w
    have e : awaitF ⟨f, r, o, s, 97⟩ k = wrongT := by simp [awaitF, objB, n119, n87, n40, n41, n91, n93, n123, n125, n34, n39, n96]
    rw [e]; exact await_97_no n119 n87 n40 n41 n91 n93 n123 n125 n34 n39 n96 w
end Go.Proofs.Ytpgffhmcangllaa
