/-
  The walk of SpliceBack.
-/
import Derived.Test.YtbdiiopllmhfeaaSplE
namespace Go.Proofs.Ytbdiiopllmhfeaa
open Go.RowKit
set_option linter.unusedVariables false
set_option linter.unusedSimpArgs false

theorem behind_start {n : Int} {e : List Spl} (h : good n (-1) e) : behind 0 e := fun u hu => by
  cases e with
  | nil => cases hu
  | cons v e => cases hu; have := h.1; omega
theorem chk_und {l : List Int} {e : List Spl} {n N : Nat} (hl : l.length = n) (hN : (appF l 0 e).length = N) (h : chkF n e = 0) : chkF N (undF l 0 e) = 0 := by
  obtain ⟨h1, h2, h3, h4⟩ := chkF_zero.1 h
  subst hl
  have hlen := app_len l e 0 (-1) h3 (by omega) (by omega) (behind_start h3)
  have hfe := fits_end h4
  have hd := delta_lo h3 (by omega) (by omega)
  refine chkF_zero.2 ⟨by omega, by omega, ?_, ?_⟩
  · exact und_good e (-1) 0 h3 (by omega) (by omega) (by omega) (by omega) (by omega)
  · exact und_fits e (-1) 0 l.length h3 (by omega) (by omega) h4 (by omega) (by omega) (by omega) _ (by omega) (by omega) (by omega)
theorem app_und {l : List Int} {e : List Spl} {n : Nat} (hl : l.length = n) (h : chkF n e = 0) : appF (appF l 0 e) 0 (undF l 0 e) = l ∧ undF (appF l 0 e) 0 (undF l 0 e) = e := by
  obtain ⟨h1, h2, h3, h4⟩ := chkF_zero.1 h
  subst hl
  have k1 := back_app l e 0 (-1) 0 [] h3 (behind_start h3) (by simp)
  have k2 := back_und l e 0 (-1) 0 [] h3 (behind_start h3) (by simp)
  exact ⟨by simpa using k1, by simpa using k2⟩
theorem edit_lit1 {W : World} {g : Nat} {f t : Int} {B : Option Addr} {m d : Nat} {x : List Int} (h : Blk W g 25 #[.int .i64 f, .int .i64 t, .slice B m d]) (hx : Ints W B m d x) (hn : B = none → d = 0) : EditAt W (some ⟨g, 0, none⟩) 1 1 [⟨f, t, x⟩] := by
  refine ⟨[.int .i64 f, .int .i64 t, .slice B m d], ⟨rfl, Nat.le_refl _, by unfold maxLen; omega, fun _ => ⟨_, rfl, fun j u hu => ?_⟩⟩, rfl, fun i hi => ?_⟩
  · have : (⟨g, 0, none⟩ : Addr).add j = ⟨g, j, none⟩ := by simp [Addr.add_lit]
    rw [this, h.cell j]
    simpa using hu
  · obtain rfl : i = 0 := by simpa using hi
    exact ⟨B, m, d, rfl, rfl, rfl, hx, hn⟩

set_option maxRecDepth 100000 in
set_option maxHeartbeats 8000000 in
theorem spliceBack_walk {l : List Int} {e : List Spl} {A E : Option Addr} {n c m d : Nat} {w : World} (hl : Ints w A n c l) (hA : A = none → c = 0) (h : EditAt w E m d e) :
    Calls Try.prog 4 #[.slice A n c, .slice E m d] w fun e' w' => e' = .returned (.bool true) ∧ Ext w w' := by
  have hlen := Lib.hid hl.len
  have hml := Lib.hid h.len
  have hnc := hl.ncap
  have hcm := hl.nmax
  have hmd := h.ncap
  have hdm := h.nmax
  unfold maxLen at hcm hdm
  have HAN := Lib.hid hA
  have hx0 : Ext w (((w.alloc (.cells #[.int .i64 7, .int .i64 8] 3)).alloc (.cells #[.int .i64 1, .int .i64 2, .slice (some ⟨w.heap.size, 0, none⟩) 2 2] 25)).alloc (.cells #[.int .i64 1, .int .i64 2, .int .i64 3] 3)) := ((Ext.alloc _ _).to_alloc _).to_alloc _
  have hb0 := ((Blk.new w 3 #[.int .i64 7, .int .i64 8]).ext (Ext.alloc _ (.cells #[.int .i64 1, .int .i64 2, .slice (some ⟨w.heap.size, 0, none⟩) 2 2] 25))).ext (Ext.alloc _ (.cells #[.int .i64 1, .int .i64 2, .int .i64 3] 3))
  have hb1 := (Blk.new (w.alloc (.cells #[.int .i64 7, .int .i64 8] 3)) 25 #[.int .i64 1, .int .i64 2, .slice (some ⟨w.heap.size, 0, none⟩) 2 2]).ext (Ext.alloc _ (.cells #[.int .i64 1, .int .i64 2, .int .i64 3] 3))
  have hb2 := Blk.new ((w.alloc (.cells #[.int .i64 7, .int .i64 8] 3)).alloc (.cells #[.int .i64 1, .int .i64 2, .slice (some ⟨w.heap.size, 0, none⟩) 2 2] 25)) 3 #[.int .i64 1, .int .i64 2, .int .i64 3]
  rw [show (w.alloc (.cells #[.int .i64 7, .int .i64 8] 3)).heap.size = w.heap.size + 1 by simp] at hb1
  rw [show ((w.alloc (.cells #[.int .i64 7, .int .i64 8] 3)).alloc (.cells #[.int .i64 1, .int .i64 2, .slice (some ⟨w.heap.size, 0, none⟩) 2 2] 25)).heap.size = w.heap.size + 2 by simp] at hb2
  have hi1 : Ints _ (some ⟨w.heap.size, 0, none⟩) 2 2 [7, 8] := Blk.ints (l := [7, 8]) hb0 rfl (by unfold maxLen; omega)
  have hi2 : Ints _ (some ⟨w.heap.size + 2, 0, none⟩) 3 3 [1, 2, 3] := Blk.ints (l := [1, 2, 3]) hb2 rfl (by unfold maxLen; omega)
  have HL := Lib.hid (apply_ok hi2 (edit_lit1 hb1 hi1 nofun) (by decide))
  rw [show appF [1, 2, 3] 0 [⟨1, 2, [7, 8]⟩] = [1, 7, 8, 3] by decide] at HL
  clear hb0 hb1 hb2 hi1 hi2 hA
  go_enter Try.func4, Try.ntmps4
  go_wp2_with fail
  refine HL.out.mono ?_
  rintro e' w1 ⟨B, q, r, rfl, hB, hBn, he1⟩
  have hq4 : q = 4 := by have := hB.ints.len; rw [← this]; rfl
  subst hq4
  have hi3 : Ints (w1.alloc (.cells #[.int .i64 1, .int .i64 7, .int .i64 8, .int .i64 3] 3)) (some ⟨w1.heap.size, 0, none⟩) 4 4 [1, 7, 8, 3] := Blk.ints (l := [1, 7, 8, 3]) (Blk.new _ _ _) rfl (by unfold maxLen; omega)
  have HE := Lib.hid (equal_same (hB.ints.ext (Ext.alloc w1 (.cells #[.int .i64 1, .int .i64 7, .int .i64 8, .int .i64 3] 3))) hi3)
  have hxw := (hx0.trans he1).to_alloc (.cells #[.int .i64 1, .int .i64 7, .int .i64 8, .int .i64 3] 3)
  clear HL hB hBn hi3 hx0 he1
  go_wp2_with fail
  refine HE.out.mono ?_
  rintro e' w2 ⟨rfl, he2⟩
  have hx2 := hxw.trans he2
  clear HE hxw he2
  by_cases hz : chkF n e = 0
  · have HC := Lib.hid (apply_ok (hl.ext hx2) (h.ext hx2) hz)
    have HU := Lib.hid (fun w' (h' : Ext w w') => undo_ok (hl.ext h') HAN.out (h.ext h') hz)
    have HZ := Lib.hid hz
    clear hz
    go_wp2_with fail
    refine HC.out.mono ?_
    rintro e' w3 ⟨B1, q1, r1, rfl, hB1, hn1, he3⟩
    have hx3 := hx2.trans he3
    have HI1 := Lib.hid hB1.ints
    have HU1 := Lib.hid (HU.out _ hx3)
    clear HC HU hB1
    go_wp2_with fail
    refine HU1.out.mono ?_
    rintro e' w4 ⟨B2, q2, r2, rfl, hB2, he4⟩
    have hx4 := hx3.trans he4
    have hi1 := HI1.out.ext he4
    have hck := chk_und hlen.out hi1.len HZ.out
    have HA2 := Lib.hid (apply_ok hi1 hB2 hck)
    have HU2 := Lib.hid (fun w' (h' : Ext w4 w') => undo_ok (hi1.ext h') hn1 (hB2.ext h') hck)
    rw [(app_und hlen.out HZ.out).1] at HA2
    rw [(app_und hlen.out HZ.out).2] at HU2
    clear HU1 HI1 hn1 hi1 hck hB2
    go_wp2_with fail
    refine HA2.out.mono ?_
    rintro e' w5 ⟨B3, q3, r3, rfl, hB3, hn3, he5⟩
    have HU3 := Lib.hid (HU2.out _ he5)
    have HI3 := Lib.hid hB3.ints
    have hx5 := hx4.trans he5
    clear HA2 HU2 hB3 hn3
    go_wp2_with fail
    refine HU3.out.mono ?_
    rintro e' w6 ⟨B4, q4, r4, rfl, hB4, he6⟩
    have hx6 := hx5.trans he6
    have hq4 : q4 = m := by rw [← hB4.len, hml.out]
    subst hq4
    have HEq := Lib.hid (equal_same (HI3.out.ext he6) (hl.ext hx6))
    have HSE := Lib.hid (fun w' (h' : Ext w6 w') => sameEdit_ok (hB4.ext h') (h.ext (hx6.trans h')))
    clear HU3 HI3 hB4
    go_wp2_with fail
    refine HEq.out.mono ?_
    rintro e' w7 ⟨rfl, he7⟩
    have HSE2 := Lib.hid (HSE.out _ he7)
    clear HEq HSE
    go_wp2_with fail
    refine HSE2.out.mono ?_
    rintro e' w8 ⟨rfl, he8⟩
    go_wp2_with fail
    go_ret
    exact ⟨rfl, hx6.trans (he7.trans he8)⟩
  · have HC := Lib.hid (apply_bad (hl.ext hx2) (h.ext hx2) hz)
    have HU := Lib.hid (fun w' (h' : Ext w w') => undo_bad (hl.ext h') (h.ext h') hz)
    generalize chkF n e = z at *
    have b1 : (z != 0) = true := by simpa using hz
    have b2 : (z == z) = true := by simp
    clear hz
    go_wp2_with fail
    refine HC.out.mono ?_
    rintro e' w3 ⟨rfl, he3⟩
    have hx3 := hx2.trans he3
    have HU1 := Lib.hid (HU.out _ hx3)
    clear HC HU
    go_wp2_with fail
    refine HU1.out.mono ?_
    rintro e' w4 ⟨rfl, he4⟩
    go_wp2_with fail
    go_ret
    exact ⟨rfl, hx3.trans he4⟩
end Go.Proofs.Ytbdiiopllmhfeaa
