/-
  The walk of MarkBack.
-/
import Derived.Test.YtbdiiopllmhfeaaMarkS
namespace Go.Proofs.Ytbdiiopllmhfeaa
open Go.RowKit
set_option linter.unusedVariables false
set_option linter.unusedSimpArgs false

theorem back_law {l : List Int} {e : List Spl} {n i : Nat} (hl : l.length = n) (hz : chkF n e = 0) (hi : i < n) (hg : goneB e i = false) :
    movF (undF l 0 e) (movF e i false) false = i := by
  obtain ⟨h1, h2, h3, h4⟩ := chkF_zero.1 hz
  have := mov_back l n hl e 0 (-1) 0 h3 (behind_start h3) (by omega) i (by omega) hi (goneB_false hg)
  rw [Int.add_zero, Int.sub_zero] at this
  exact this

set_option maxRecDepth 100000 in
set_option maxHeartbeats 8000000 in
theorem markBack_walk {l : List Int} {e : List Spl} {A E : Option Addr} {n c m d : Nat} {k : Int} {w : World} (hl : Ints w A n c l) (hA : A = none → c = 0) (h : EditAt w E m d e) :
    Calls Try.prog 6 #[.slice A n c, .slice E m d, .int .i64 k] w fun e' w' => e' = .returned (.bool true) ∧ Ext w w' := by
  have hlen := Lib.hid hl.len
  have hnc := hl.ncap
  have hcm := hl.nmax
  have hmd := h.ncap
  have hdm := h.nmax
  unfold maxLen at hcm hdm
  have HAN := Lib.hid hA
  have hx0 : Ext w (w.alloc (.cells #[.int .i64 0, .int .i64 1, .slice none 0 0] 25)) := Ext.alloc _ _
  have hb1 := Blk.new w 25 #[.int .i64 0, .int .i64 1, .slice none 0 0]
  have HL := Lib.hid (move_ok (n := 2) (k := 1) (st := false) (edit_lit1 hb1 (Ints.none_ _) (fun _ => rfl)) (by decide) (by omega))
  rw [show movF [⟨0, 1, []⟩] ((1 : Nat) : Int) false = 0 by decide] at HL
  clear hb1 hA
  go_enter Try.func6, Try.ntmps6
  go_wp2_with fail
  refine HL.out.mono ?_
  rintro e' w1 ⟨rfl, he1⟩
  have hx1 := hx0.trans he1
  clear HL hx0 he1
  by_cases hz : chkF n e = 0
  · have HC := Lib.hid (apply_ok (hl.ext hx1) (h.ext hx1) hz)
    have hn4 : n ≤ 4096 := by have := (chkF_zero.1 hz).2.1; omega
    have HZ := Lib.hid hz
    clear hz
    by_cases h0 : n = 0
    · have b0 : ((n : Int) == 0) = true := by simp; omega
      clear h0
      go_wp2_with fail
      refine HC.out.mono ?_
      rintro e' w2 ⟨B, N, r, rfl, hB, hBn, he2⟩
      have hx2 := hx1.trans he2
      have hNr := hB.ints.ncap
      have hrm := hB.ints.nmax
      unfold maxLen at hrm
      clear hB HC
      go_wp2_with fail
      go_ret
      exact ⟨rfl, hx2⟩
    · have b0 : ((n : Int) == 0) = false := by simp; omega
      obtain ⟨i, hi⟩ : ∃ i, i = restF k n := ⟨_, rfl⟩
      have hir := restF_lt (a := k) (b := n) (by omega)
      have HI : Hid (∀ w', Calls Try.prog 12 #[.int .i64 k, .int .i64 n] w' fun e w'' => e = .returned (.int .i64 i) ∧ w' = w'') := Lib.hid (fun w' => (rest_ok k n w' (by omega) (by omega)).mono fun _ _ ⟨ha, hb⟩ => ⟨by rw [ha, hi], hb.symm⟩)
      rw [← hi] at hir
      clear hi h0
      go_wp2_with fail
      refine HC.out.mono ?_
      rintro e' w2 ⟨B, N, r, rfl, hB, hBn, he2⟩
      have hx2 := hx1.trans he2
      have HN := Lib.hid hB.ints.len
      have hNr := hB.ints.ncap
      have hrm := hB.ints.nmax
      unfold maxLen at hrm
      clear HC hB hBn
      go_wp2_with fail
      refine (HI.out _).mono ?_
      rintro e' w3 ⟨rfl, rfl⟩
      have hbx := Blk.new w2 3 #[.int .i64 i]
      have hx3 := hx2.to_alloc (.cells #[.int .i64 i] 3)
      have hc0 := hbx.cell 0
      simp only [List.getElem?_toArray, List.getElem?_cons_zero, List.getElem?_cons_succ] at hc0
      have HCT := Lib.hid (containsB_ok (h.ext hx3) hc0)
      clear HI hbx
      go_wp2_with fail
      refine HCT.out.mono ?_
      rintro e' w4 ⟨rfl, he4⟩
      have hx4 := hx3.trans he4
      have hc4 := he4.cell hc0
      clear HCT hc0
      cases hg : goneB e i with
      | true =>
        go_wp2_with fail
        go_ret
        exact ⟨rfl, hx4⟩
      | false =>
        have HBL := Lib.hid (back_law hlen.out HZ.out hir hg)
        obtain ⟨L1, L2, L3, _, _⟩ := stays_law (i := i) (i2 := i) hlen.out HN.out HZ.out (by omega) (by omega)
        have HU := Lib.hid (undo_ok (hl.ext hx4) HAN.out (h.ext hx4) HZ.out)
        have HM := Lib.hid (fun w' (h' : Ext w w') => move_ok (st := false) (h.ext h') HZ.out (show i ≤ n by omega))
        have HCU := Lib.hid (chk_und hlen.out HN.out HZ.out)
        clear hg
        revert HBL L1 L2 L3 HM
        generalize movF e i false = ma
        intro HBL L1 L2 L3 HM
        obtain ⟨a, rfl⟩ := Int.eq_ofNat_of_zero_le (show 0 ≤ ma by omega)
        try simp only [Int.ofNat_eq_natCast] at *
        clear L1 L2
        go_wp2_with fail
        refine HU.out.mono ?_
        rintro e' w5 ⟨B2, q2, r2, rfl, hB2, he5⟩
        have hx5 := hx4.trans he5
        have hc5 := he5.cell hc4
        have HM5 := Lib.hid (HM.out _ hx5)
        clear HU HM hc4
        go_wp2_with fail
        refine HM5.out.mono ?_
        rintro e' w6 ⟨rfl, he6⟩
        have hx6 := hx5.trans he6
        have hc6 := he6.cell hc5
        have HM6 := Lib.hid (move_ok (n := N) (k := a) (st := false) (hB2.ext he6) HCU.out (by omega))
        rw [HBL.out] at HM6
        have b1 : ((i : Int) == (i : Int)) = true := by simp
        clear HM5 hc5 hB2 L3
        go_wp2_with fail
        refine HM6.out.mono ?_
        rintro e' w7 ⟨rfl, he7⟩
        have hc7 := he7.cell hc6
        clear HM6 hc6
        go_wp2_with fail
        go_ret
        exact ⟨by first | rfl | simp, hx6.trans he7⟩
  · have HC := Lib.hid (apply_bad (hl.ext hx1) (h.ext hx1) hz)
    generalize chkF n e = z at *
    have b1 : (z != 0) = true := by simpa using hz
    clear hz
    go_wp2_with fail
    refine HC.out.mono ?_
    rintro e' w3 ⟨rfl, he3⟩
    clear HC
    go_wp2_with fail
    go_ret
    exact ⟨rfl, hx1.trans he3⟩
end Go.Proofs.Ytbdiiopllmhfeaa
