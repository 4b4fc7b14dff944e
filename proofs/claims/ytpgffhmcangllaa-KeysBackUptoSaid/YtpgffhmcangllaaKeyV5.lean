/-
  The walk of keys.Take.
-/
import Derived.Test.YtpgffhmcangllaaKeyU
namespace Go.Proofs.Ytpgffhmcangllaa
open Go.RowKit
set_option linter.unusedVariables false
set_option linter.unusedSimpArgs false

set_option maxRecDepth 20000 in
set_option maxHeartbeats 8000000 in
theorem take_first {f r s k : Int} (h32 : ¬ k < 32) (h127 : k ≠ 127) (hk : 0 ≤ k ∧ k ≤ 255)  (hz : kindF ⟨f, r, 0, s, 0⟩ k = 1) (w : World) (h : chkB ⟨f, r, 0, s, 0⟩ = true) : Calls Try.prog 10 #[ptV ⟨f, r, 0, s, 0⟩, .int .i64 k] w fun e w' => e = .returned (tkV ⟨⟨countF f k, r, 0, s, 0⟩, Cm.zero, 1⟩) ∧ Ext w w' := by
  obtain ⟨h1, h2, h3, h4, h5, hr, ho2, hwt⟩ := chk_parts h
  have HC : Hid (∀ wq : World, _) := Lib.hid fun (wq : World) => counted_ok f k wq ⟨h1, h2⟩ hk
  obtain ⟨c, hc⟩ : ∃ c, countF f k = c := ⟨_, rfl⟩
  rw [hc] at HC
  rw [hc]
  clear hc h1 h2 h3 h4 h5 hr ho2 hwt hk
  obtain ⟨hb0, hb1, hb2, hx⟩ := three (w := w) (.int .i64 f) (.int .i64 r) (.int .i64 0) (.int .i64 s) (.int .i64 0) (.int .i64 0) (.int .i64 0) (.int .i64 0) (.int .i64 0) (.int .i64 0) (.int .i64 0) (.int .i64 0) (.int .i64 0) (.int .i64 0) (.int .i64 0)
  have HCk : Hid (∀ wq : World, _) := Lib.hid fun (wq : World) => check_ok wq h
  unfold ptV at HCk
  simp only at HCk
  have HK : Hid (∀ wq : World, _) := Lib.hid fun (wq : World) => kind_ok ⟨f, r, 0, s, 0⟩ k wq
  rw [hz] at HK
  unfold ptV at HK
  simp only at HK
  have kb : (k == 127) = false := by simpa using h127
  clear hz
  clear h
  unfold ptV
  simp only
  go_enter Try.func10, Try.ntmps10
  go_wp2_with fail
  refine (HCk.out _).mono ?_
  rintro e w1 ⟨rfl, he1⟩
  have HB0 := Lib.hid (hb0.ext he1)
  have HB1 := Lib.hid (hb1.ext he1)
  have HB2 := Lib.hid (hb2.ext he1)
  have HEW := Lib.hid (hx.trans he1)
  obtain ⟨⟨q0, q1, q2, q3, q4⟩, ⟨r0, r1, r2, r3, r4⟩⟩ := HB0.out.five
  clear hb0 hb1 hb2 hx HCk he1
  go_wp2_with fail
  refine (HK.out _).mono ?_
  rintro e w2 ⟨rfl, he2⟩
  have HD0 := Lib.hid (HB0.out.ext he2)
  have HD1 := Lib.hid (HB1.out.ext he2)
  have HD2 := Lib.hid (HB2.out.ext he2)
  have HEX := Lib.hid (HEW.out.trans he2)
  clear HK HB0 HB1 HB2 HEW he2 q0 q1 q2 q3 q4 r0 r1 r2 r3 r4
  obtain ⟨⟨q0, q1, q2, q3, q4⟩, ⟨r0, r1, r2, r3, r4⟩⟩ := HD0.out.five
  go_wp2_with fail
  refine (HC.out _).mono ?_
  rintro e w' ⟨rfl, rfl⟩
  clear HC
  have HF0 := Lib.hid (show Blk (w2.setCell ⟨w.heap.size, 0, none⟩ (.int .i64 c)) w.heap.size 25 #[.int .i64 c, .int .i64 r, .int .i64 0, .int .i64 s, .int .i64 0] from by simpa using HD0.out.set_ 0 (.int .i64 c))
  have HF1 := Lib.hid (HD1.out.setNq (p := ⟨w.heap.size, 0, none⟩) (show w.heap.size ≠ w.heap.size + 1 by omega) (.int .i64 c))
  have HF2 := Lib.hid (HD2.out.setNq (p := ⟨w.heap.size, 0, none⟩) (show w.heap.size ≠ w.heap.size + 1 + 1 by omega) (.int .i64 c))
  have HFE := Lib.hid (HEX.out.setCell (p := ⟨w.heap.size, 0, none⟩) (Nat.le_refl _) (.int .i64 c))
  obtain ⟨⟨s0, s1, s2, s3, s4⟩, _⟩ := HF0.out.five
  have hB1 := set5_other (.int .i64 0) (.int .i64 0) (.int .i64 0) (.int .i64 0) (.int .i64 0) (set5 (.int .i64 c) (.int .i64 r) (.int .i64 0) (.int .i64 s) (.int .i64 0) HF1.out) (show w.heap.size + 1 + 1 ≠ w.heap.size + 1 by omega)
  have hB2 := set5 (.int .i64 0) (.int .i64 0) (.int .i64 0) (.int .i64 0) (.int .i64 0) (set5_other (.int .i64 c) (.int .i64 r) (.int .i64 0) (.int .i64 s) (.int .i64 0) HF2.out (show w.heap.size + 1 ≠ w.heap.size + 1 + 1 by omega))
  have hend := set5_ext (.int .i64 0) (.int .i64 0) (.int .i64 0) (.int .i64 0) (.int .i64 0) (set5_ext (.int .i64 c) (.int .i64 r) (.int .i64 0) (.int .i64 s) (.int .i64 0) HFE.out (Nat.le_succ w.heap.size)) (show w.heap.size ≤ w.heap.size + 1 + 1 by omega)
  obtain ⟨⟨e0, e1, e2, e3, e4⟩, _⟩ := hB1.five
  obtain ⟨⟨d0, d1, d2, d3, d4⟩, _⟩ := hB2.five
  obtain ⟨⟨c0, c1, c2, c3, c4⟩, ⟨f0, f1, f2, f3, f4⟩⟩ := Blk.five HF1.out
  obtain ⟨⟨x0, x1, x2, x3, x4⟩, ⟨y0, y1, y2, y3, y4⟩⟩ := Blk.five HF2.out
  clear hB1 hB2
  clear HD0 HD1 HD2 HEX
  go_wp2_with fail
  refine bodyPost_ret (by simp [results, Try.results10, go_sem, e0, e1, e2, e3, e4, d0, d1, d2, d3, d4]; try rfl) rfl ?_
  exact ⟨rfl, hend⟩
end Go.Proofs.Ytpgffhmcangllaa
