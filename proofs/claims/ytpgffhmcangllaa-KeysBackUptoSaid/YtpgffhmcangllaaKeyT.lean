/-
  The walks of keys.Check (where all is in bounds), awaited, Take.
-/
import Derived.Test.YtpgffhmcangllaaKeyX
namespace Go.Proofs.Ytpgffhmcangllaa
open Go.RowKit
set_option linter.unusedVariables false
set_option linter.unusedSimpArgs false

theorem chk_parts {f r o s wt : Int} (h : chkB ⟨f, r, o, s, wt⟩ = true) : 0 ≤ f ∧ f ≤ 999 ∧ 0 ≤ s ∧ s ≤ 999 ∧ (o = 0 → s ≤ 0) ∧ (r = 0 ∨ r ≠ 0 ∧ letB r = true) ∧ (o = 0 ∨ o ≠ 0 ∧ opeB o = true) ∧ waitsB ⟨f, r, o, s, wt⟩ = true := by
  simp only [chkB, boundsB, namesB] at h
  simp at h
  obtain ⟨⟨⟨h1, h2⟩, h3, h4⟩, h5⟩ := h
  refine ⟨by omega, by omega, by omega, by omega, ?_, ?_, ?_, h5⟩
  · intro e; rcases h2 with h2 | h2
    · exact h2
    · exact absurd e h2
  · by_cases hr : r = 0
    · exact .inl hr
    · exact .inr ⟨hr, by rcases h3 with h | h; exact absurd h hr; exact h⟩
  · by_cases ho : o = 0
    · exact .inl ho
    · exact .inr ⟨ho, by rcases h4 with h | h; exact absurd h ho; exact h⟩
theorem wait_is {f r o s wt : Int} (h : waitsB ⟨f, r, o, s, wt⟩ = true) : wt = 0 ∨ wt = 102 ∨ wt = 70 ∨ wt = 116 ∨ wt = 84 ∨ wt = 114 ∨ wt = 34 ∨ wt = 105 ∨ wt = 97 := by
  unfold waitsB at h
  simp only at h
  split at h
  · rename_i h1; simp at h1; omega
  · split at h
    · rename_i h1; simp at h1; omega
    · split at h
      · rename_i h1; simp at h1; omega
      · cases h
set_option maxRecDepth 20000 in
set_option maxHeartbeats 8000000 in
theorem check_0 {f r o s : Int} (w : World) (h : chkB ⟨f, r, o, s, 0⟩ = true) : Calls Try.prog 11 #[ptV ⟨f, r, o, s, 0⟩] w fun e w' => e = .returned (.int .i64 0) ∧ Ext w w' := by
  obtain ⟨h1, h2, h3, h4, h5, hr, ho, hw⟩ := chk_parts h
  have HL := Lib.hid (letter_ok r)
  have HO := Lib.hid (operator_ok o)
  have hx := Ext.alloc w (.cells #[.int .i64 f, .int .i64 r, .int .i64 o, .int .i64 s, .int .i64 0] 25)
  clear h
  unfold ptV
  simp only
  rcases hr with rfl | ⟨hr0, hr⟩
  · rcases ho with rfl | ⟨ho0, ho⟩
    · have hs0 : s = 0 := by have h6 := h5 rfl; omega
      subst hs0
      clear hw
      go_enter Try.func11, Try.ntmps11
      go_wp2_with (first
        | (go_at_call 19; refine (HL.out _).mono ?_; rintro e w' ⟨rfl, rfl⟩)
        | (go_at_call 20; refine (HO.out _).mono ?_; rintro e w' ⟨rfl, rfl⟩))
      all_goals go_ret
      all_goals exact ⟨rfl, hx⟩
    · have hob : (o != 0) = true := by simpa using ho0
      have hoc : (o == 0) = false := by simpa using ho0
      rw [ho] at HO
      clear hw
      go_enter Try.func11, Try.ntmps11
      go_wp2_with (first
        | (go_at_call 19; refine (HL.out _).mono ?_; rintro e w' ⟨rfl, rfl⟩)
        | (go_at_call 20; refine (HO.out _).mono ?_; rintro e w' ⟨rfl, rfl⟩))
      all_goals go_ret
      all_goals exact ⟨rfl, hx⟩
  · have hrb : (r != 0) = true := by simpa using hr0
    have hrc : (r == 0) = false := by simpa using hr0
    rw [hr] at HL
    rcases ho with rfl | ⟨ho0, ho⟩
    · have hs0 : s = 0 := by have h6 := h5 rfl; omega
      subst hs0
      clear hw
      go_enter Try.func11, Try.ntmps11
      go_wp2_with (first
        | (go_at_call 19; refine (HL.out _).mono ?_; rintro e w' ⟨rfl, rfl⟩)
        | (go_at_call 20; refine (HO.out _).mono ?_; rintro e w' ⟨rfl, rfl⟩))
      all_goals go_ret
      all_goals exact ⟨rfl, hx⟩
    · have hob : (o != 0) = true := by simpa using ho0
      have hoc : (o == 0) = false := by simpa using ho0
      rw [ho] at HO
      clear hw
      go_enter Try.func11, Try.ntmps11
      go_wp2_with (first
        | (go_at_call 19; refine (HL.out _).mono ?_; rintro e w' ⟨rfl, rfl⟩)
        | (go_at_call 20; refine (HO.out _).mono ?_; rintro e w' ⟨rfl, rfl⟩))
      all_goals go_ret
      all_goals exact ⟨rfl, hx⟩
set_option maxRecDepth 20000 in
set_option maxHeartbeats 8000000 in
theorem check_102 {f r o s : Int} (w : World) (h : chkB ⟨f, r, o, s, 102⟩ = true) : Calls Try.prog 11 #[ptV ⟨f, r, o, s, 102⟩] w fun e w' => e = .returned (.int .i64 0) ∧ Ext w w' := by
  obtain ⟨h1, h2, h3, h4, h5, hr, ho, hw⟩ := chk_parts h
  have HL := Lib.hid (letter_ok r)
  have HO := Lib.hid (operator_ok o)
  have hx := Ext.alloc w (.cells #[.int .i64 f, .int .i64 r, .int .i64 o, .int .i64 s, .int .i64 102] 25)
  clear h
  unfold ptV
  simp only
  rcases hr with rfl | ⟨hr0, hr⟩
  · rcases ho with rfl | ⟨ho0, ho⟩
    · have hs0 : s = 0 := by have h6 := h5 rfl; omega
      subst hs0
      clear hw
      go_enter Try.func11, Try.ntmps11
      go_wp2_with (first
        | (go_at_call 19; refine (HL.out _).mono ?_; rintro e w' ⟨rfl, rfl⟩)
        | (go_at_call 20; refine (HO.out _).mono ?_; rintro e w' ⟨rfl, rfl⟩))
      all_goals go_ret
      all_goals exact ⟨rfl, hx⟩
    · have hob : (o != 0) = true := by simpa using ho0
      have hoc : (o == 0) = false := by simpa using ho0
      rw [ho] at HO
      clear hw
      go_enter Try.func11, Try.ntmps11
      go_wp2_with (first
        | (go_at_call 19; refine (HL.out _).mono ?_; rintro e w' ⟨rfl, rfl⟩)
        | (go_at_call 20; refine (HO.out _).mono ?_; rintro e w' ⟨rfl, rfl⟩))
      all_goals go_ret
      all_goals exact ⟨rfl, hx⟩
  · have hrb : (r != 0) = true := by simpa using hr0
    have hrc : (r == 0) = false := by simpa using hr0
    rw [hr] at HL
    rcases ho with rfl | ⟨ho0, ho⟩
    · have hs0 : s = 0 := by have h6 := h5 rfl; omega
      subst hs0
      clear hw
      go_enter Try.func11, Try.ntmps11
      go_wp2_with (first
        | (go_at_call 19; refine (HL.out _).mono ?_; rintro e w' ⟨rfl, rfl⟩)
        | (go_at_call 20; refine (HO.out _).mono ?_; rintro e w' ⟨rfl, rfl⟩))
      all_goals go_ret
      all_goals exact ⟨rfl, hx⟩
    · have hob : (o != 0) = true := by simpa using ho0
      have hoc : (o == 0) = false := by simpa using ho0
      rw [ho] at HO
      clear hw
      go_enter Try.func11, Try.ntmps11
      go_wp2_with (first
        | (go_at_call 19; refine (HL.out _).mono ?_; rintro e w' ⟨rfl, rfl⟩)
        | (go_at_call 20; refine (HO.out _).mono ?_; rintro e w' ⟨rfl, rfl⟩))
      all_goals go_ret
      all_goals exact ⟨rfl, hx⟩
set_option maxRecDepth 20000 in
set_option maxHeartbeats 8000000 in
theorem check_70 {f r o s : Int} (w : World) (h : chkB ⟨f, r, o, s, 70⟩ = true) : Calls Try.prog 11 #[ptV ⟨f, r, o, s, 70⟩] w fun e w' => e = .returned (.int .i64 0) ∧ Ext w w' := by
  obtain ⟨h1, h2, h3, h4, h5, hr, ho, hw⟩ := chk_parts h
  have HL := Lib.hid (letter_ok r)
  have HO := Lib.hid (operator_ok o)
  have hx := Ext.alloc w (.cells #[.int .i64 f, .int .i64 r, .int .i64 o, .int .i64 s, .int .i64 70] 25)
  clear h
  unfold ptV
  simp only
  rcases hr with rfl | ⟨hr0, hr⟩
  · rcases ho with rfl | ⟨ho0, ho⟩
    · have hs0 : s = 0 := by have h6 := h5 rfl; omega
      subst hs0
      clear hw
      go_enter Try.func11, Try.ntmps11
      go_wp2_with (first
        | (go_at_call 19; refine (HL.out _).mono ?_; rintro e w' ⟨rfl, rfl⟩)
        | (go_at_call 20; refine (HO.out _).mono ?_; rintro e w' ⟨rfl, rfl⟩))
      all_goals go_ret
      all_goals exact ⟨rfl, hx⟩
    · have hob : (o != 0) = true := by simpa using ho0
      have hoc : (o == 0) = false := by simpa using ho0
      rw [ho] at HO
      clear hw
      go_enter Try.func11, Try.ntmps11
      go_wp2_with (first
        | (go_at_call 19; refine (HL.out _).mono ?_; rintro e w' ⟨rfl, rfl⟩)
        | (go_at_call 20; refine (HO.out _).mono ?_; rintro e w' ⟨rfl, rfl⟩))
      all_goals go_ret
      all_goals exact ⟨rfl, hx⟩
  · have hrb : (r != 0) = true := by simpa using hr0
    have hrc : (r == 0) = false := by simpa using hr0
    rw [hr] at HL
    rcases ho with rfl | ⟨ho0, ho⟩
    · have hs0 : s = 0 := by have h6 := h5 rfl; omega
      subst hs0
      clear hw
      go_enter Try.func11, Try.ntmps11
      go_wp2_with (first
        | (go_at_call 19; refine (HL.out _).mono ?_; rintro e w' ⟨rfl, rfl⟩)
        | (go_at_call 20; refine (HO.out _).mono ?_; rintro e w' ⟨rfl, rfl⟩))
      all_goals go_ret
      all_goals exact ⟨rfl, hx⟩
    · have hob : (o != 0) = true := by simpa using ho0
      have hoc : (o == 0) = false := by simpa using ho0
      rw [ho] at HO
      clear hw
      go_enter Try.func11, Try.ntmps11
      go_wp2_with (first
        | (go_at_call 19; refine (HL.out _).mono ?_; rintro e w' ⟨rfl, rfl⟩)
        | (go_at_call 20; refine (HO.out _).mono ?_; rintro e w' ⟨rfl, rfl⟩))
      all_goals go_ret
      all_goals exact ⟨rfl, hx⟩
set_option maxRecDepth 20000 in
set_option maxHeartbeats 8000000 in
theorem check_116 {f r o s : Int} (w : World) (h : chkB ⟨f, r, o, s, 116⟩ = true) : Calls Try.prog 11 #[ptV ⟨f, r, o, s, 116⟩] w fun e w' => e = .returned (.int .i64 0) ∧ Ext w w' := by
  obtain ⟨h1, h2, h3, h4, h5, hr, ho, hw⟩ := chk_parts h
  have HL := Lib.hid (letter_ok r)
  have HO := Lib.hid (operator_ok o)
  have hx := Ext.alloc w (.cells #[.int .i64 f, .int .i64 r, .int .i64 o, .int .i64 s, .int .i64 116] 25)
  clear h
  unfold ptV
  simp only
  rcases hr with rfl | ⟨hr0, hr⟩
  · rcases ho with rfl | ⟨ho0, ho⟩
    · have hs0 : s = 0 := by have h6 := h5 rfl; omega
      subst hs0
      clear hw
      go_enter Try.func11, Try.ntmps11
      go_wp2_with (first
        | (go_at_call 19; refine (HL.out _).mono ?_; rintro e w' ⟨rfl, rfl⟩)
        | (go_at_call 20; refine (HO.out _).mono ?_; rintro e w' ⟨rfl, rfl⟩))
      all_goals go_ret
      all_goals exact ⟨rfl, hx⟩
    · have hob : (o != 0) = true := by simpa using ho0
      have hoc : (o == 0) = false := by simpa using ho0
      rw [ho] at HO
      clear hw
      go_enter Try.func11, Try.ntmps11
      go_wp2_with (first
        | (go_at_call 19; refine (HL.out _).mono ?_; rintro e w' ⟨rfl, rfl⟩)
        | (go_at_call 20; refine (HO.out _).mono ?_; rintro e w' ⟨rfl, rfl⟩))
      all_goals go_ret
      all_goals exact ⟨rfl, hx⟩
  · have hrb : (r != 0) = true := by simpa using hr0
    have hrc : (r == 0) = false := by simpa using hr0
    rw [hr] at HL
    rcases ho with rfl | ⟨ho0, ho⟩
    · have hs0 : s = 0 := by have h6 := h5 rfl; omega
      subst hs0
      clear hw
      go_enter Try.func11, Try.ntmps11
      go_wp2_with (first
        | (go_at_call 19; refine (HL.out _).mono ?_; rintro e w' ⟨rfl, rfl⟩)
        | (go_at_call 20; refine (HO.out _).mono ?_; rintro e w' ⟨rfl, rfl⟩))
      all_goals go_ret
      all_goals exact ⟨rfl, hx⟩
    · have hob : (o != 0) = true := by simpa using ho0
      have hoc : (o == 0) = false := by simpa using ho0
      rw [ho] at HO
      clear hw
      go_enter Try.func11, Try.ntmps11
      go_wp2_with (first
        | (go_at_call 19; refine (HL.out _).mono ?_; rintro e w' ⟨rfl, rfl⟩)
        | (go_at_call 20; refine (HO.out _).mono ?_; rintro e w' ⟨rfl, rfl⟩))
      all_goals go_ret
      all_goals exact ⟨rfl, hx⟩
set_option maxRecDepth 20000 in
set_option maxHeartbeats 8000000 in
theorem check_84 {f r o s : Int} (w : World) (h : chkB ⟨f, r, o, s, 84⟩ = true) : Calls Try.prog 11 #[ptV ⟨f, r, o, s, 84⟩] w fun e w' => e = .returned (.int .i64 0) ∧ Ext w w' := by
  obtain ⟨h1, h2, h3, h4, h5, hr, ho, hw⟩ := chk_parts h
  have HL := Lib.hid (letter_ok r)
  have HO := Lib.hid (operator_ok o)
  have hx := Ext.alloc w (.cells #[.int .i64 f, .int .i64 r, .int .i64 o, .int .i64 s, .int .i64 84] 25)
  clear h
  unfold ptV
  simp only
  rcases hr with rfl | ⟨hr0, hr⟩
  · rcases ho with rfl | ⟨ho0, ho⟩
    · have hs0 : s = 0 := by have h6 := h5 rfl; omega
      subst hs0
      clear hw
      go_enter Try.func11, Try.ntmps11
      go_wp2_with (first
        | (go_at_call 19; refine (HL.out _).mono ?_; rintro e w' ⟨rfl, rfl⟩)
        | (go_at_call 20; refine (HO.out _).mono ?_; rintro e w' ⟨rfl, rfl⟩))
      all_goals go_ret
      all_goals exact ⟨rfl, hx⟩
    · have hob : (o != 0) = true := by simpa using ho0
      have hoc : (o == 0) = false := by simpa using ho0
      rw [ho] at HO
      clear hw
      go_enter Try.func11, Try.ntmps11
      go_wp2_with (first
        | (go_at_call 19; refine (HL.out _).mono ?_; rintro e w' ⟨rfl, rfl⟩)
        | (go_at_call 20; refine (HO.out _).mono ?_; rintro e w' ⟨rfl, rfl⟩))
      all_goals go_ret
      all_goals exact ⟨rfl, hx⟩
  · have hrb : (r != 0) = true := by simpa using hr0
    have hrc : (r == 0) = false := by simpa using hr0
    rw [hr] at HL
    rcases ho with rfl | ⟨ho0, ho⟩
    · have hs0 : s = 0 := by have h6 := h5 rfl; omega
      subst hs0
      clear hw
      go_enter Try.func11, Try.ntmps11
      go_wp2_with (first
        | (go_at_call 19; refine (HL.out _).mono ?_; rintro e w' ⟨rfl, rfl⟩)
        | (go_at_call 20; refine (HO.out _).mono ?_; rintro e w' ⟨rfl, rfl⟩))
      all_goals go_ret
      all_goals exact ⟨rfl, hx⟩
    · have hob : (o != 0) = true := by simpa using ho0
      have hoc : (o == 0) = false := by simpa using ho0
      rw [ho] at HO
      clear hw
      go_enter Try.func11, Try.ntmps11
      go_wp2_with (first
        | (go_at_call 19; refine (HL.out _).mono ?_; rintro e w' ⟨rfl, rfl⟩)
        | (go_at_call 20; refine (HO.out _).mono ?_; rintro e w' ⟨rfl, rfl⟩))
      all_goals go_ret
      all_goals exact ⟨rfl, hx⟩
set_option maxRecDepth 20000 in
set_option maxHeartbeats 8000000 in
theorem check_114 {f r o s : Int} (w : World) (h : chkB ⟨f, r, o, s, 114⟩ = true) : Calls Try.prog 11 #[ptV ⟨f, r, o, s, 114⟩] w fun e w' => e = .returned (.int .i64 0) ∧ Ext w w' := by
  obtain ⟨h1, h2, h3, h4, h5, hr, ho, hw⟩ := chk_parts h
  have HL := Lib.hid (letter_ok r)
  have HO := Lib.hid (operator_ok o)
  have hx := Ext.alloc w (.cells #[.int .i64 f, .int .i64 r, .int .i64 o, .int .i64 s, .int .i64 114] 25)
  clear h
  unfold ptV
  simp only
  rcases hr with rfl | ⟨hr0, hr⟩
  · rcases ho with rfl | ⟨ho0, ho⟩
    · have hs0 : s = 0 := by have h6 := h5 rfl; omega
      subst hs0
      clear hw
      go_enter Try.func11, Try.ntmps11
      go_wp2_with (first
        | (go_at_call 19; refine (HL.out _).mono ?_; rintro e w' ⟨rfl, rfl⟩)
        | (go_at_call 20; refine (HO.out _).mono ?_; rintro e w' ⟨rfl, rfl⟩))
      all_goals go_ret
      all_goals exact ⟨rfl, hx⟩
    · have hob : (o != 0) = true := by simpa using ho0
      have hoc : (o == 0) = false := by simpa using ho0
      rw [ho] at HO
      exfalso; revert hw; simp [waitsB, ho0]
  · have hrb : (r != 0) = true := by simpa using hr0
    have hrc : (r == 0) = false := by simpa using hr0
    rw [hr] at HL
    rcases ho with rfl | ⟨ho0, ho⟩
    · have hs0 : s = 0 := by have h6 := h5 rfl; omega
      subst hs0
      clear hw
      go_enter Try.func11, Try.ntmps11
      go_wp2_with (first
        | (go_at_call 19; refine (HL.out _).mono ?_; rintro e w' ⟨rfl, rfl⟩)
        | (go_at_call 20; refine (HO.out _).mono ?_; rintro e w' ⟨rfl, rfl⟩))
      all_goals go_ret
      all_goals exact ⟨rfl, hx⟩
    · have hob : (o != 0) = true := by simpa using ho0
      have hoc : (o == 0) = false := by simpa using ho0
      rw [ho] at HO
      exfalso; revert hw; simp [waitsB, ho0, hr0]
set_option maxRecDepth 20000 in
set_option maxHeartbeats 8000000 in
theorem check_34 {f r o s : Int} (w : World) (h : chkB ⟨f, r, o, s, 34⟩ = true) : Calls Try.prog 11 #[ptV ⟨f, r, o, s, 34⟩] w fun e w' => e = .returned (.int .i64 0) ∧ Ext w w' := by
  obtain ⟨h1, h2, h3, h4, h5, hr, ho, hw⟩ := chk_parts h
  have HL := Lib.hid (letter_ok r)
  have HO := Lib.hid (operator_ok o)
  have hx := Ext.alloc w (.cells #[.int .i64 f, .int .i64 r, .int .i64 o, .int .i64 s, .int .i64 34] 25)
  clear h
  unfold ptV
  simp only
  rcases hr with rfl | ⟨hr0, hr⟩
  · rcases ho with rfl | ⟨ho0, ho⟩
    · have hs0 : s = 0 := by have h6 := h5 rfl; omega
      subst hs0
      clear hw
      go_enter Try.func11, Try.ntmps11
      go_wp2_with (first
        | (go_at_call 19; refine (HL.out _).mono ?_; rintro e w' ⟨rfl, rfl⟩)
        | (go_at_call 20; refine (HO.out _).mono ?_; rintro e w' ⟨rfl, rfl⟩))
      all_goals go_ret
      all_goals exact ⟨rfl, hx⟩
    · have hob : (o != 0) = true := by simpa using ho0
      have hoc : (o == 0) = false := by simpa using ho0
      rw [ho] at HO
      exfalso; revert hw; simp [waitsB, ho0]
  · have hrb : (r != 0) = true := by simpa using hr0
    have hrc : (r == 0) = false := by simpa using hr0
    rw [hr] at HL
    rcases ho with rfl | ⟨ho0, ho⟩
    · have hs0 : s = 0 := by have h6 := h5 rfl; omega
      subst hs0
      exfalso; revert hw; simp [waitsB, hr0]
    · have hob : (o != 0) = true := by simpa using ho0
      have hoc : (o == 0) = false := by simpa using ho0
      rw [ho] at HO
      exfalso; revert hw; simp [waitsB, ho0, hr0]
set_option maxRecDepth 20000 in
set_option maxHeartbeats 8000000 in
theorem check_105 {f r o s : Int} (w : World) (h : chkB ⟨f, r, o, s, 105⟩ = true) : Calls Try.prog 11 #[ptV ⟨f, r, o, s, 105⟩] w fun e w' => e = .returned (.int .i64 0) ∧ Ext w w' := by
  obtain ⟨h1, h2, h3, h4, h5, hr, ho, hw⟩ := chk_parts h
  have HL := Lib.hid (letter_ok r)
  have HO := Lib.hid (operator_ok o)
  have hx := Ext.alloc w (.cells #[.int .i64 f, .int .i64 r, .int .i64 o, .int .i64 s, .int .i64 105] 25)
  clear h
  unfold ptV
  simp only
  rcases hr with rfl | ⟨hr0, hr⟩
  · rcases ho with rfl | ⟨ho0, ho⟩
    · have hs0 : s = 0 := by have h6 := h5 rfl; omega
      subst hs0
      exfalso; revert hw; simp [waitsB]
    · have hob : (o != 0) = true := by simpa using ho0
      have hoc : (o == 0) = false := by simpa using ho0
      rw [ho] at HO
      clear hw
      go_enter Try.func11, Try.ntmps11
      go_wp2_with (first
        | (go_at_call 19; refine (HL.out _).mono ?_; rintro e w' ⟨rfl, rfl⟩)
        | (go_at_call 20; refine (HO.out _).mono ?_; rintro e w' ⟨rfl, rfl⟩))
      all_goals go_ret
      all_goals exact ⟨rfl, hx⟩
  · have hrb : (r != 0) = true := by simpa using hr0
    have hrc : (r == 0) = false := by simpa using hr0
    rw [hr] at HL
    rcases ho with rfl | ⟨ho0, ho⟩
    · have hs0 : s = 0 := by have h6 := h5 rfl; omega
      subst hs0
      exfalso; revert hw; simp [waitsB, hr0]
    · have hob : (o != 0) = true := by simpa using ho0
      have hoc : (o == 0) = false := by simpa using ho0
      rw [ho] at HO
      clear hw
      go_enter Try.func11, Try.ntmps11
      go_wp2_with (first
        | (go_at_call 19; refine (HL.out _).mono ?_; rintro e w' ⟨rfl, rfl⟩)
        | (go_at_call 20; refine (HO.out _).mono ?_; rintro e w' ⟨rfl, rfl⟩))
      all_goals go_ret
      all_goals exact ⟨rfl, hx⟩
set_option maxRecDepth 20000 in
set_option maxHeartbeats 8000000 in
theorem check_97 {f r o s : Int} (w : World) (h : chkB ⟨f, r, o, s, 97⟩ = true) : Calls Try.prog 11 #[ptV ⟨f, r, o, s, 97⟩] w fun e w' => e = .returned (.int .i64 0) ∧ Ext w w' := by
  obtain ⟨h1, h2, h3, h4, h5, hr, ho, hw⟩ := chk_parts h
  have HL := Lib.hid (letter_ok r)
  have HO := Lib.hid (operator_ok o)
  have hx := Ext.alloc w (.cells #[.int .i64 f, .int .i64 r, .int .i64 o, .int .i64 s, .int .i64 97] 25)
  clear h
  unfold ptV
  simp only
  rcases hr with rfl | ⟨hr0, hr⟩
  · rcases ho with rfl | ⟨ho0, ho⟩
    · have hs0 : s = 0 := by have h6 := h5 rfl; omega
      subst hs0
      exfalso; revert hw; simp [waitsB]
    · have hob : (o != 0) = true := by simpa using ho0
      have hoc : (o == 0) = false := by simpa using ho0
      rw [ho] at HO
      clear hw
      go_enter Try.func11, Try.ntmps11
      go_wp2_with (first
        | (go_at_call 19; refine (HL.out _).mono ?_; rintro e w' ⟨rfl, rfl⟩)
        | (go_at_call 20; refine (HO.out _).mono ?_; rintro e w' ⟨rfl, rfl⟩))
      all_goals go_ret
      all_goals exact ⟨rfl, hx⟩
  · have hrb : (r != 0) = true := by simpa using hr0
    have hrc : (r == 0) = false := by simpa using hr0
    rw [hr] at HL
    rcases ho with rfl | ⟨ho0, ho⟩
    · have hs0 : s = 0 := by have h6 := h5 rfl; omega
      subst hs0
      exfalso; revert hw; simp [waitsB, hr0]
    · have hob : (o != 0) = true := by simpa using ho0
      have hoc : (o == 0) = false := by simpa using ho0
      rw [ho] at HO
      clear hw
      go_enter Try.func11, Try.ntmps11
      go_wp2_with (first
        | (go_at_call 19; refine (HL.out _).mono ?_; rintro e w' ⟨rfl, rfl⟩)
        | (go_at_call 20; refine (HO.out _).mono ?_; rintro e w' ⟨rfl, rfl⟩))
      all_goals go_ret
      all_goals exact ⟨rfl, hx⟩
theorem check_ok {p : Pt} (w : World) (h : chkB p = true) : Calls Try.prog 11 #[ptV p] w fun e w' => e = .returned (.int .i64 0) ∧ Ext w w' := by
  obtain ⟨f, r, o, s, wt⟩ := p
  rcases wait_is (chk_parts h).2.2.2.2.2.2.2 with rfl | rfl | rfl | rfl | rfl | rfl | rfl | rfl | rfl
  · exact check_0 w h
  · exact check_102 w h
  · exact check_70 w h
  · exact check_116 w h
  · exact check_84 w h
  · exact check_114 w h
  · exact check_34 w h
  · exact check_105 w h
  · exact check_97 w h
end Go.Proofs.Ytpgffhmcangllaa
