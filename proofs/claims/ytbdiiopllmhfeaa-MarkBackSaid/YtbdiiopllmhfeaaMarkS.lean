/-
  The walk of MarkStays.
-/
import Derived.Test.YtbdiiopllmhfeaaMarkW
namespace Go.Proofs.Ytbdiiopllmhfeaa
open Go.RowKit
set_option linter.unusedVariables false
set_option linter.unusedSimpArgs false

/-- What the law says of places. -/
theorem stays_law {l : List Int} {e : List Spl} {n N i i2 : Nat} (hl : l.length = n) (hN : (appF l 0 e).length = N) (hz : chkF n e = 0) (hi : i ≤ n) (hi2 : i2 ≤ n) :
    0 ≤ movF e i true ∧ movF e i true ≤ movF e i false ∧ movF e i false ≤ N ∧ (i ≤ i2 → movF e i false ≤ movF e i2 false) ∧
      (i < n → goneB e i = false → movF e i false < N ∧ gI (appF l 0 e) (movF e i false).toNat = gI l i) := by
  obtain ⟨h1, h2, h3, h4⟩ := chkF_zero.1 hz
  have hb := behind_start h3
  have hlen := app_len l e 0 (-1) (by rw [hl]; exact h3) (by omega) (by omega) hb
  have hp := mov_pos l n hl e 0 (-1) h3 hb (by omega) i (by omega) hi
  have e0 : ∀ (k : Nat) (st : Bool), movL k st ((k : Int) - ((0 : Nat) : Int)) e = movF e k st := fun k st => by
    unfold movF; rw [show (k : Int) - ((0 : Nat) : Int) = k by omega]
  simp only [e0] at hp
  obtain ⟨p1, p2, p3, p4, p5⟩ := hp
  refine ⟨p1, p2, by omega, fun h => p4 i2 h hi2, fun h hg => ?_⟩
  obtain ⟨q1, q2⟩ := p5 h (goneB_false hg)
  exact ⟨by omega, q2⟩

set_option maxRecDepth 100000 in
set_option maxHeartbeats 8000000 in
theorem markStays_walk {l : List Int} {e : List Spl} {A E : Option Addr} {n c m d : Nat} {j k : Int} {w : World} (hl : Ints w A n c l) (h : EditAt w E m d e) :
    Calls Try.prog 3 #[.slice A n c, .slice E m d, .int .i64 j, .int .i64 k] w fun e' w' => e' = .returned (.bool true) ∧ Ext w w' := by
  have hlen := Lib.hid hl.len
  have hnc := hl.ncap
  have hcm := hl.nmax
  have hmd := h.ncap
  have hdm := h.nmax
  unfold maxLen at hcm hdm
  have hx0 : Ext w ((w.alloc (.cells #[.int .i64 7] 3)).alloc (.cells #[.int .i64 0, .int .i64 0, .slice (some ⟨w.heap.size, 0, none⟩) 1 1] 25)) := (Ext.alloc _ _).to_alloc _
  have hb0 := (Blk.new w 3 #[.int .i64 7]).ext (Ext.alloc _ (.cells #[.int .i64 0, .int .i64 0, .slice (some ⟨w.heap.size, 0, none⟩) 1 1] 25))
  have hb1 := Blk.new (w.alloc (.cells #[.int .i64 7] 3)) 25 #[.int .i64 0, .int .i64 0, .slice (some ⟨w.heap.size, 0, none⟩) 1 1]
  rw [show (w.alloc (.cells #[.int .i64 7] 3)).heap.size = w.heap.size + 1 by simp] at hb1
  have hi1 : Ints _ (some ⟨w.heap.size, 0, none⟩) 1 1 [7] := Blk.ints (l := [7]) hb0 rfl (by unfold maxLen; omega)
  have HL := Lib.hid (move_ok (n := 1) (k := 0) (st := false) (edit_lit1 hb1 hi1 nofun) (by decide) (by omega))
  rw [show movF [⟨0, 0, [7]⟩] ((0 : Nat) : Int) false = 1 by decide] at HL
  clear hb0 hb1 hi1
  go_enter Try.func3, Try.ntmps3
  go_wp2_with fail
  refine HL.out.mono ?_
  rintro e' w1 ⟨rfl, he1⟩
  have hx1 := hx0.trans he1
  clear HL hx0 he1
  by_cases hz : chkF n e = 0
  · have HC := Lib.hid (apply_ok (hl.ext hx1) (h.ext hx1) hz)
    have hn4 : n ≤ 4096 := by have := (chkF_zero.1 hz).2.1; omega
    have HZ := Lib.hid hz
    obtain ⟨n1, hn1⟩ : ∃ n1 : Nat, (n : Int) + 1 = (n1 : Int) := ⟨n + 1, by omega⟩
    obtain ⟨i, hi⟩ : ∃ i, i = restF j n1 := ⟨_, rfl⟩
    obtain ⟨i2, hi2⟩ : ∃ i2, i2 = restF k n1 := ⟨_, rfl⟩
    have hir := restF_lt (a := j) (b := n1) (by omega)
    have hir2 := restF_lt (a := k) (b := n1) (by omega)
    have HI : Hid (∀ w', Calls Try.prog 12 #[.int .i64 j, .int .i64 n1] w' fun e w'' => e = .returned (.int .i64 i) ∧ w' = w'') := Lib.hid (fun w' => (rest_ok j n1 w' (by omega) (by omega)).mono fun _ _ ⟨ha, hb⟩ => ⟨by rw [ha, hi], hb.symm⟩)
    have HI2 : Hid (∀ w', Calls Try.prog 12 #[.int .i64 k, .int .i64 n1] w' fun e w'' => e = .returned (.int .i64 i2) ∧ w' = w'') := Lib.hid (fun w' => (rest_ok k n1 w' (by omega) (by omega)).mono fun _ _ ⟨ha, hb⟩ => ⟨by rw [ha, hi2], hb.symm⟩)
    rw [← hi] at hir
    rw [← hi2] at hir2
    have hin : i ≤ n := by omega
    have hin2 : i2 ≤ n := by omega
    clear hz hi hi2 hir hir2
    go_wp2_with fail
    refine HC.out.mono ?_
    rintro e' w2 ⟨B, N, r, rfl, hB, hBn, he2⟩
    have hx2 := hx1.trans he2
    have HBI := Lib.hid hB.ints
    have HN := Lib.hid hB.ints.len
    have hNr := hB.ints.ncap
    have hrm := hB.ints.nmax
    unfold maxLen at hrm
    have HLW := Lib.hid (stays_law hlen.out hB.ints.len HZ.out hin hin2)
    clear HC hB hBn
    go_wp2_with fail
    refine (HI.out _).mono ?_
    rintro e' w3 ⟨rfl, rfl⟩
    go_wp2_with fail
    refine (HI2.out _).mono ?_
    rintro e' w3 ⟨rfl, rfl⟩
    have hbx := Blk.new w2 3 #[.int .i64 i]
    have hx3 := hx2.to_alloc (.cells #[.int .i64 i] 3)
    have HB3 := Lib.hid (HBI.out.ext (Ext.alloc w2 (.cells #[.int .i64 i] 3)))
    clear HI HI2 HBI hn1
    go_wp2_with fail
    revert hbx hx3 HB3
    generalize w2.alloc (.cells #[.int .i64 i] 3) = W
    generalize w2.heap.size = g
    intro hbx hx3 HB3
    have M1 := Lib.hid (move_ok (st := false) (h.ext hx3) HZ.out hin)
    have M2 := Lib.hid (fun w' (h' : Ext w w') => move_ok (st := false) (h.ext h') HZ.out hin2)
    have M3 := Lib.hid (fun w' (h' : Ext w w') => move_ok (st := true) (h.ext h') HZ.out hin)
    obtain ⟨L1, L2, L3, L4, L5⟩ := HLW.out
    have HL4 := Lib.hid L4
    have HL5 := Lib.hid L5
    clear L4 L5 HLW
    revert L1 L2 L3 HL4 HL5 M1 M2 M3
    generalize movF e i false = ma
    generalize movF e i2 false = mb
    generalize movF e i true = mc
    intro M1 M2 M3 L1 L2 L3 HL4 HL5
    obtain ⟨a, rfl⟩ := Int.eq_ofNat_of_zero_le (show 0 ≤ ma by omega)
    try simp only [Int.ofNat_eq_natCast] at *
    have hc0 := hbx.cell 0
    simp only [List.getElem?_toArray, List.getElem?_cons_zero, List.getElem?_cons_succ] at hc0
    refine M1.out.mono ?_
    rintro e' w4 ⟨rfl, he4⟩
    have hx4 := hx3.trans he4
    have hc4 := he4.cell hc0
    have HM2 := Lib.hid (M2.out _ hx4)
    clear M1 M2 hc0
    go_wp2_with fail
    refine HM2.out.mono ?_
    rintro e' w5 ⟨rfl, he5⟩
    have hx5 := hx4.trans he5
    have hc5 := he5.cell hc4
    have HM3 := Lib.hid (M3.out _ hx5)
    clear HM2 M3 hc4
    go_wp2_with fail
    refine HM3.out.mono ?_
    rintro e' w6 ⟨rfl, he6⟩
    have hx6 := hx5.trans he6
    have hc6 := he6.cell hc5
    have HCT := Lib.hid (containsS_ok (h.ext hx6) hc6)
    have HB6 := Lib.hid (HB3.out.ext ((he4.trans he5).trans he6))
    have n1' : ¬ (a : Int) < mc := by omega
    have n2' : ¬ N < a := by omega
    have n3' : ¬ mc < 0 := by omega
    have hab : i ≤ i2 → ¬ mb < (a : Int) := fun h => by have := HL4.out h; omega
    have HAB := Lib.hid hab
    clear HM3 hc5 hbx hab HL4 HB3 he4 he5 he6 hx3 hx4 hx5 hx2 hx1 he2
    by_cases hii : i ≤ i2
    all_goals
      try have n4' := HAB.out hii
      go_wp2_with fail
      refine HCT.out.mono ?_
      rintro e' w7 ⟨rfl, he7⟩
      have hx7 := hx6.trans he7
      have hc7 := he7.cell hc6
      cases hg : goneB e i with
      | true =>
        clear HCT hc6
        go_wp2_with fail
        go_quiet (fail)
        go_wp2_with fail
        go_ret
        exact ⟨rfl, hx7.trans (Ext.drewN _ _)⟩
      | false =>
        by_cases hin3 : i = n
        · have b1 : ((i : Int) == (n : Int)) = true := by simp; omega
          clear HCT hc6 hin3
          go_wp2_with fail
          go_quiet (fail)
          go_wp2_with fail
          go_ret
          exact ⟨rfl, hx7.trans (Ext.drewN _ _)⟩
        · have b1 : ((i : Int) == (n : Int)) = false := by simp; omega
          obtain ⟨q1, q2⟩ := HL5.out (by omega) hg
          rw [Int.toNat_natCast] at q2
          have q1' : a < N := by omega
          have q3 : decide (a < N) = true := by simpa using q1'
          obtain ⟨ad1, rfl, hcl⟩ := hl.at_ (k := i) (by omega)
          obtain ⟨ad2, rfl, hcm⟩ := HB6.out.at_ q1'
          have k1 := hx7.cell (hcl i (by omega))
          have k2 := he7.cell (hcm a q1')
          rw [q2] at k2
          have hil : i < n := by omega
          clear HCT hc6 hin3 hcl hcm q2 q1 hg
          generalize gI l i = z at *
          go_wp2_with fail
          go_quiet (fail)
          go_wp2_with fail
          go_ret
          exact ⟨by first | rfl | simp, hx7.trans (Ext.drewN _ _)⟩
  · have HC := Lib.hid (apply_bad (hl.ext hx1) (h.ext hx1) hz)
    generalize chkF n e = z at *
    have b1 : (z != 0) = true := by simpa using hz
    clear hz
    go_wp2_with fail
    refine HC.out.mono ?_
    rintro e' w3 ⟨rfl, he3⟩
    clear HC
    go_wp2_with fail
    go_ret
    exact ⟨rfl, hx1.trans he3⟩
end Go.Proofs.Ytbdiiopllmhfeaa
