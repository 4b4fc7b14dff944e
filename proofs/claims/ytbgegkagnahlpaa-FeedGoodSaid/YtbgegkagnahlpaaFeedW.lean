/-
  The walks of package feed's machine: second, whole, fits, broken, take, run.
-/
import Derived.Test.YtbgegkagnahlpaaUtfA
import Derived.Test.YtbgegkagnahlpaaFeedM
import Derived.Test.YtbgegkagnahlpaaPush
import Derived.Deep.RegionHeld3
import Derived.Deep.RegionLaw
import Derived.Laws.BytesString
namespace Go.Proofs.Ytbgegkagnahlpaa
open Go.RowKit
set_option linter.unusedVariables false
set_option linter.unusedSimpArgs false

def bv (b : Nat) : Value := .int .u8 b
theorem info_u8 : (Try.prog.info? 5).map (fun i => (i.zero, i.size, i.bytes)) = some (some (.int .u8 0), 1, 1) := by kernel_rfl

set_option maxRecDepth 20000 in
set_option maxHeartbeats 1000000 in
theorem second_ok (b : Nat) (w : World) : Calls Try.prog 29 #[.int .u8 b] w fun e w' => e = .returned (.tuple #[.int .u8 (secL b), .int .u8 (secH b)]) ∧ w = w' := by
  by_cases c1 : b = 224
  · subst c1
    go_enter Try.func29, Try.ntmps29
    go_wp2_with fail
    go_ret2
    exact ⟨rfl, rfl⟩
  by_cases c2 : b = 237
  · subst c2
    go_enter Try.func29, Try.ntmps29
    go_wp2_with fail
    go_ret2
    exact ⟨rfl, rfl⟩
  by_cases c3 : b = 240
  · subst c3
    go_enter Try.func29, Try.ntmps29
    go_wp2_with fail
    go_ret2
    exact ⟨rfl, rfl⟩
  by_cases c4 : b = 244
  · subst c4
    go_enter Try.func29, Try.ntmps29
    go_wp2_with fail
    go_ret2
    exact ⟨rfl, rfl⟩
  have e1 : secL b = 128 := by unfold secL; rw [if_neg c1, if_neg c3]
  have e2 : secH b = 191 := by unfold secH; rw [if_neg c2, if_neg c4]
  rw [e1, e2]
  have k1 : ((b : Int) == 224) = false := by simp; omega
  have k2 : ((b : Int) == 237) = false := by simp; omega
  have k3 : ((b : Int) == 240) = false := by simp; omega
  have k4 : ((b : Int) == 244) = false := by simp; omega
  clear c1 c2 c3 c4 e1 e2
  go_enter Try.func29, Try.ntmps29
  go_wp2_with fail
  go_ret2
  exact ⟨rfl, rfl⟩
set_option maxRecDepth 20000 in
set_option maxHeartbeats 1000000 in
theorem whole_ok (b : Nat) (w : World) : Calls Try.prog 28 #[.int .u8 b] w fun e w' => e = .returned (.int .i64 (whF b)) ∧ w = w' := by
  have key : ∀ z : Nat, whF b = z → whF b = z := fun _ h => h
  by_cases c1 : b < 128
  · rw [wh1.2 c1]
    go_enter Try.func28, Try.ntmps28
    go_wp2_with fail
    go_ret
    exact ⟨rfl, rfl⟩
  by_cases c2 : b < 194
  · rw [show whF b = 0 by unfold whF; rw [if_neg c1, if_neg (by omega), if_neg (by omega), if_neg (by omega)]]
    have k1 : ¬ (194 : Int) ≤ b := by omega
    have k2 : ¬ (224 : Int) ≤ b := by omega
    have k3 : ¬ (240 : Int) ≤ b := by omega
    go_enter Try.func28, Try.ntmps28
    go_wp2_with fail
    go_ret
    exact ⟨rfl, rfl⟩
  by_cases c3 : b < 224
  · rw [wh2.2 ⟨by omega, by omega⟩]
    have k1 : (194 : Int) ≤ b := by omega
    have k2 : (b : Int) ≤ 223 := by omega
    go_enter Try.func28, Try.ntmps28
    go_wp2_with fail
    go_ret
    exact ⟨rfl, rfl⟩
  by_cases c4 : b < 240
  · rw [wh3.2 ⟨by omega, by omega⟩]
    have k1 : (194 : Int) ≤ b := by omega
    have k2 : ¬ (b : Int) ≤ 223 := by omega
    have k3 : (224 : Int) ≤ b := by omega
    have k4 : (b : Int) ≤ 239 := by omega
    go_enter Try.func28, Try.ntmps28
    go_wp2_with fail
    go_ret
    exact ⟨rfl, rfl⟩
  by_cases c5 : b < 245
  · rw [wh4.2 ⟨by omega, by omega⟩]
    have k1 : (194 : Int) ≤ b := by omega
    have k2 : ¬ (b : Int) ≤ 223 := by omega
    have k3 : (224 : Int) ≤ b := by omega
    have k4 : ¬ (b : Int) ≤ 239 := by omega
    have k5 : (240 : Int) ≤ b := by omega
    have k6 : (b : Int) ≤ 244 := by omega
    go_enter Try.func28, Try.ntmps28
    go_wp2_with fail
    go_ret
    exact ⟨rfl, rfl⟩
  · rw [show whF b = 0 by unfold whF; rw [if_neg c1, if_neg (by omega), if_neg (by omega), if_neg (by omega)]]
    have k1 : (194 : Int) ≤ b := by omega
    have k2 : ¬ (b : Int) ≤ 223 := by omega
    have k3 : (224 : Int) ≤ b := by omega
    have k4 : ¬ (b : Int) ≤ 239 := by omega
    have k5 : (240 : Int) ≤ b := by omega
    have k6 : ¬ (b : Int) ≤ 244 := by omega
    go_enter Try.func28, Try.ntmps28
    go_wp2_with fail
    go_ret
    exact ⟨rfl, rfl⟩
theorem bv_at {w : World} {A : Option Addr} {n c : Nat} {ah : List Nat} (h : Rd w 1 A n c (ah.map bv)) {k : Nat} (hk : k < n) : ∃ ad, A = some ad ∧ w.cell? (ad.add k) = some (.int .u8 (gN ah k)) := by
  obtain ⟨ad, e, hc⟩ := h.at_ hk
  have hl : ah.length = n := by have := h.len; rw [List.length_map] at this; omega
  refine ⟨ad, e, hc k _ ?_⟩
  rw [List.getElem?_map, List.getElem?_eq_getElem (by omega)]
  simp [bv, gN, List.getElem?_eq_getElem (show k < ah.length by omega)]
set_option maxRecDepth 20000 in
set_option maxHeartbeats 1000000 in
theorem fits_ok {ah : List Nat} {b : Nat} {A : Option Addr} {n c : Nat} {w : World} (h : Rd w 1 A n c (ah.map bv)) :
    Calls Try.prog 27 #[.slice A n c, .int .u8 b] w fun e w' => e = .returned (.bool (decide (fitsF ah b))) ∧ w = w' := by
  have hl : ah.length = n := by have := h.len; rw [List.length_map] at this; omega
  have hnc := h.ncap
  have hcm := h.nmax
  unfold maxLen at hcm
  by_cases h1 : n = 1
  · subst h1
    obtain ⟨ad, rfl, hc⟩ := bv_at h (k := 0) (by omega)
    rw [add_nought] at hc
    have HS := Lib.hid (second_ok (gN ah 0))
    have HE : Hid (fitsF ah b ↔ secL (gN ah 0) ≤ b ∧ b ≤ secH (gN ah 0)) := Lib.hid (by unfold fitsF; rw [if_pos hl])
    clear h hl
    generalize gN ah 0 = a at *
    generalize secL a = x at *
    generalize secH a = y at *
    go_enter Try.func27, Try.ntmps27
    go_wp2_with fail
    refine (HS.out _).mono ?_
    rintro e w' ⟨rfl, rfl⟩
    by_cases k1 : x ≤ b
    · have k1i : (x : Int) ≤ (b : Int) := by omega
      by_cases k2 : b ≤ y
      · have k2i : (b : Int) ≤ (y : Int) := by omega
        have hE := Lib.hid (decide_eq_true (HE.out.2 ⟨k1, k2⟩))
        clear HS HE
        go_wp2_with fail
        go_ret
        exact ⟨ret_bool (by rw [hE.out]), rfl⟩
      · have k2i : ¬ (b : Int) ≤ (y : Int) := by omega
        have hE := Lib.hid (decide_eq_false (fun hh => k2 (HE.out.1 hh).2))
        clear HS HE
        go_wp2_with fail
        go_ret
        exact ⟨ret_bool (by rw [hE.out]), rfl⟩
    · have k1i : ¬ (x : Int) ≤ (b : Int) := by omega
      have hE := Lib.hid (decide_eq_false (fun hh => k1 (HE.out.1 hh).1))
      clear HS HE
      go_wp2_with fail
      go_ret
      exact ⟨ret_bool (by rw [hE.out]), rfl⟩
  · have HE : Hid (fitsF ah b ↔ 128 ≤ b ∧ b ≤ 191) := Lib.hid (by unfold fitsF; rw [if_neg (by omega)])
    have hn1 : ((n : Int) == 1) = false := by simp; omega
    clear h
    by_cases k1 : 128 ≤ b
    · have k1i : (128 : Int) ≤ (b : Int) := by omega
      by_cases k2 : b ≤ 191
      · have k2i : (b : Int) ≤ 191 := by omega
        have hE := Lib.hid (decide_eq_true (HE.out.2 ⟨k1, k2⟩))
        clear HE
        go_enter Try.func27, Try.ntmps27
        go_wp2_with fail
        go_ret
        exact ⟨ret_bool (by rw [hE.out]), rfl⟩
      · have k2i : ¬ (b : Int) ≤ 191 := by omega
        have hE := Lib.hid (decide_eq_false (fun hh => k2 (HE.out.1 hh).2))
        clear HE
        go_enter Try.func27, Try.ntmps27
        go_wp2_with fail
        go_ret
        exact ⟨ret_bool (by rw [hE.out]), rfl⟩
    · have k1i : ¬ (128 : Int) ≤ (b : Int) := by omega
      have hE := Lib.hid (decide_eq_false (fun hh => k1 (HE.out.1 hh).1))
      clear HE
      go_enter Try.func27, Try.ntmps27
      go_wp2_with fail
      go_ret
      exact ⟨ret_bool (by rw [hE.out]), rfl⟩
end Go.Proofs.Ytbgegkagnahlpaa
