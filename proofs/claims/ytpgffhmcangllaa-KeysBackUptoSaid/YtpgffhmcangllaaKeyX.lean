/-
  The walk of keys.kindOf, key by key.
-/
import Derived.Test.YtpgffhmcangllaaKeyW
namespace Go.Proofs.Ytpgffhmcangllaa
open Go.RowKit
set_option linter.unusedVariables false
set_option linter.unusedSimpArgs false

def KindP (p : Pt) (k : Int) : Prop := ∀ w : World, Calls Try.prog 16 #[ptV p, .int .i64 k] w fun e w' => e = .returned (.int .i64 (kindF p k)) ∧ Ext w w'
set_option maxRecDepth 20000 in
set_option maxHeartbeats 4000000 in
theorem kind_100 (p : Pt) : KindP p 100 := by
  obtain ⟨f, r, o, s, wt⟩ := p
  by_cases ho : o = 0
  · subst ho
    have hz : kindF ⟨f, r, 0, s, wt⟩ 100 = 3 := by simp [kindF, digB, opeB, motB, findB, plainB]
    intro w
    rw [hz]
    have hx := Ext.alloc w (.cells #[.int .i64 f, .int .i64 r, .int .i64 0, .int .i64 s, .int .i64 wt] 25)
    have HO := Lib.hid (operator_ok 100)
    rw [show opeB 100 = true from rfl] at HO
    clear hz
    unfold ptV
    simp only
    go_enter Try.func16, Try.ntmps16
    go_wp2_with (go_at_call 20; refine (HO.out _).mono ?_; rintro e w' ⟨rfl, rfl⟩)
    go_ret
    exact ⟨rfl, hx⟩
  · have hob : (o == 0) = false := by simpa using ho
    have hz : kindF ⟨f, r, o, s, wt⟩ 100 = 3 := by simp [kindF, digB, opeB, motB, findB, plainB, ho]
    intro w
    rw [hz]
    have hx := Ext.alloc w (.cells #[.int .i64 f, .int .i64 r, .int .i64 o, .int .i64 s, .int .i64 wt] 25)
    have HO := Lib.hid (operator_ok 100)
    rw [show opeB 100 = true from rfl] at HO
    clear hz
    unfold ptV
    simp only
    go_enter Try.func16, Try.ntmps16
    go_wp2_with (go_at_call 20; refine (HO.out _).mono ?_; rintro e w' ⟨rfl, rfl⟩)
    go_ret
    exact ⟨rfl, hx⟩
set_option maxRecDepth 20000 in
set_option maxHeartbeats 4000000 in
theorem kind_99 (p : Pt) : KindP p 99 := by
  obtain ⟨f, r, o, s, wt⟩ := p
  by_cases ho : o = 0
  · subst ho
    have hz : kindF ⟨f, r, 0, s, wt⟩ 99 = 3 := by simp [kindF, digB, opeB, motB, findB, plainB]
    intro w
    rw [hz]
    have hx := Ext.alloc w (.cells #[.int .i64 f, .int .i64 r, .int .i64 0, .int .i64 s, .int .i64 wt] 25)
    have HO := Lib.hid (operator_ok 99)
    rw [show opeB 99 = true from rfl] at HO
    clear hz
    unfold ptV
    simp only
    go_enter Try.func16, Try.ntmps16
    go_wp2_with (go_at_call 20; refine (HO.out _).mono ?_; rintro e w' ⟨rfl, rfl⟩)
    go_ret
    exact ⟨rfl, hx⟩
  · have hob : (o == 0) = false := by simpa using ho
    have hz : kindF ⟨f, r, o, s, wt⟩ 99 = 3 := by simp [kindF, digB, opeB, motB, findB, plainB, ho]
    intro w
    rw [hz]
    have hx := Ext.alloc w (.cells #[.int .i64 f, .int .i64 r, .int .i64 o, .int .i64 s, .int .i64 wt] 25)
    have HO := Lib.hid (operator_ok 99)
    rw [show opeB 99 = true from rfl] at HO
    clear hz
    unfold ptV
    simp only
    go_enter Try.func16, Try.ntmps16
    go_wp2_with (go_at_call 20; refine (HO.out _).mono ?_; rintro e w' ⟨rfl, rfl⟩)
    go_ret
    exact ⟨rfl, hx⟩
set_option maxRecDepth 20000 in
set_option maxHeartbeats 4000000 in
theorem kind_121 (p : Pt) : KindP p 121 := by
  obtain ⟨f, r, o, s, wt⟩ := p
  by_cases ho : o = 0
  · subst ho
    have hz : kindF ⟨f, r, 0, s, wt⟩ 121 = 3 := by simp [kindF, digB, opeB, motB, findB, plainB]
    intro w
    rw [hz]
    have hx := Ext.alloc w (.cells #[.int .i64 f, .int .i64 r, .int .i64 0, .int .i64 s, .int .i64 wt] 25)
    have HO := Lib.hid (operator_ok 121)
    rw [show opeB 121 = true from rfl] at HO
    clear hz
    unfold ptV
    simp only
    go_enter Try.func16, Try.ntmps16
    go_wp2_with (go_at_call 20; refine (HO.out _).mono ?_; rintro e w' ⟨rfl, rfl⟩)
    go_ret
    exact ⟨rfl, hx⟩
  · have hob : (o == 0) = false := by simpa using ho
    have hz : kindF ⟨f, r, o, s, wt⟩ 121 = 3 := by simp [kindF, digB, opeB, motB, findB, plainB, ho]
    intro w
    rw [hz]
    have hx := Ext.alloc w (.cells #[.int .i64 f, .int .i64 r, .int .i64 o, .int .i64 s, .int .i64 wt] 25)
    have HO := Lib.hid (operator_ok 121)
    rw [show opeB 121 = true from rfl] at HO
    clear hz
    unfold ptV
    simp only
    go_enter Try.func16, Try.ntmps16
    go_wp2_with (go_at_call 20; refine (HO.out _).mono ?_; rintro e w' ⟨rfl, rfl⟩)
    go_ret
    exact ⟨rfl, hx⟩
set_option maxRecDepth 20000 in
set_option maxHeartbeats 4000000 in
theorem kind_104 (p : Pt) : KindP p 104 := by
  obtain ⟨f, r, o, s, wt⟩ := p
  by_cases ho : o = 0
  · subst ho
    have hz : kindF ⟨f, r, 0, s, wt⟩ 104 = 5 := by simp [kindF, digB, opeB, motB, findB, plainB]
    intro w
    rw [hz]
    have hx := Ext.alloc w (.cells #[.int .i64 f, .int .i64 r, .int .i64 0, .int .i64 s, .int .i64 wt] 25)
    have HO := Lib.hid (operator_ok 104)
    rw [show opeB 104 = false from rfl] at HO
    clear hz
    unfold ptV
    simp only
    go_enter Try.func16, Try.ntmps16
    go_wp2_with (go_at_call 20; refine (HO.out _).mono ?_; rintro e w' ⟨rfl, rfl⟩)
    go_ret
    exact ⟨rfl, hx⟩
  · have hob : (o == 0) = false := by simpa using ho
    have hz : kindF ⟨f, r, o, s, wt⟩ 104 = 5 := by simp [kindF, digB, opeB, motB, findB, plainB, ho]
    intro w
    rw [hz]
    have hx := Ext.alloc w (.cells #[.int .i64 f, .int .i64 r, .int .i64 o, .int .i64 s, .int .i64 wt] 25)
    have HO := Lib.hid (operator_ok 104)
    rw [show opeB 104 = false from rfl] at HO
    clear hz
    unfold ptV
    simp only
    go_enter Try.func16, Try.ntmps16
    go_wp2_with (go_at_call 20; refine (HO.out _).mono ?_; rintro e w' ⟨rfl, rfl⟩)
    go_ret
    exact ⟨rfl, hx⟩
set_option maxRecDepth 20000 in
set_option maxHeartbeats 4000000 in
theorem kind_108 (p : Pt) : KindP p 108 := by
  obtain ⟨f, r, o, s, wt⟩ := p
  by_cases ho : o = 0
  · subst ho
    have hz : kindF ⟨f, r, 0, s, wt⟩ 108 = 5 := by simp [kindF, digB, opeB, motB, findB, plainB]
    intro w
    rw [hz]
    have hx := Ext.alloc w (.cells #[.int .i64 f, .int .i64 r, .int .i64 0, .int .i64 s, .int .i64 wt] 25)
    have HO := Lib.hid (operator_ok 108)
    rw [show opeB 108 = false from rfl] at HO
    clear hz
    unfold ptV
    simp only
    go_enter Try.func16, Try.ntmps16
    go_wp2_with (go_at_call 20; refine (HO.out _).mono ?_; rintro e w' ⟨rfl, rfl⟩)
    go_ret
    exact ⟨rfl, hx⟩
  · have hob : (o == 0) = false := by simpa using ho
    have hz : kindF ⟨f, r, o, s, wt⟩ 108 = 5 := by simp [kindF, digB, opeB, motB, findB, plainB, ho]
    intro w
    rw [hz]
    have hx := Ext.alloc w (.cells #[.int .i64 f, .int .i64 r, .int .i64 o, .int .i64 s, .int .i64 wt] 25)
    have HO := Lib.hid (operator_ok 108)
    rw [show opeB 108 = false from rfl] at HO
    clear hz
    unfold ptV
    simp only
    go_enter Try.func16, Try.ntmps16
    go_wp2_with (go_at_call 20; refine (HO.out _).mono ?_; rintro e w' ⟨rfl, rfl⟩)
    go_ret
    exact ⟨rfl, hx⟩
set_option maxRecDepth 20000 in
set_option maxHeartbeats 4000000 in
theorem kind_94 (p : Pt) : KindP p 94 := by
  obtain ⟨f, r, o, s, wt⟩ := p
  by_cases ho : o = 0
  · subst ho
    have hz : kindF ⟨f, r, 0, s, wt⟩ 94 = 5 := by simp [kindF, digB, opeB, motB, findB, plainB]
    intro w
    rw [hz]
    have hx := Ext.alloc w (.cells #[.int .i64 f, .int .i64 r, .int .i64 0, .int .i64 s, .int .i64 wt] 25)
    have HO := Lib.hid (operator_ok 94)
    rw [show opeB 94 = false from rfl] at HO
    clear hz
    unfold ptV
    simp only
    go_enter Try.func16, Try.ntmps16
    go_wp2_with (go_at_call 20; refine (HO.out _).mono ?_; rintro e w' ⟨rfl, rfl⟩)
    go_ret
    exact ⟨rfl, hx⟩
  · have hob : (o == 0) = false := by simpa using ho
    have hz : kindF ⟨f, r, o, s, wt⟩ 94 = 5 := by simp [kindF, digB, opeB, motB, findB, plainB, ho]
    intro w
    rw [hz]
    have hx := Ext.alloc w (.cells #[.int .i64 f, .int .i64 r, .int .i64 o, .int .i64 s, .int .i64 wt] 25)
    have HO := Lib.hid (operator_ok 94)
    rw [show opeB 94 = false from rfl] at HO
    clear hz
    unfold ptV
    simp only
    go_enter Try.func16, Try.ntmps16
    go_wp2_with (go_at_call 20; refine (HO.out _).mono ?_; rintro e w' ⟨rfl, rfl⟩)
    go_ret
    exact ⟨rfl, hx⟩
set_option maxRecDepth 20000 in
set_option maxHeartbeats 4000000 in
theorem kind_36 (p : Pt) : KindP p 36 := by
  obtain ⟨f, r, o, s, wt⟩ := p
  by_cases ho : o = 0
  · subst ho
    have hz : kindF ⟨f, r, 0, s, wt⟩ 36 = 5 := by simp [kindF, digB, opeB, motB, findB, plainB]
    intro w
    rw [hz]
    have hx := Ext.alloc w (.cells #[.int .i64 f, .int .i64 r, .int .i64 0, .int .i64 s, .int .i64 wt] 25)
    have HO := Lib.hid (operator_ok 36)
    rw [show opeB 36 = false from rfl] at HO
    clear hz
    unfold ptV
    simp only
    go_enter Try.func16, Try.ntmps16
    go_wp2_with (go_at_call 20; refine (HO.out _).mono ?_; rintro e w' ⟨rfl, rfl⟩)
    go_ret
    exact ⟨rfl, hx⟩
  · have hob : (o == 0) = false := by simpa using ho
    have hz : kindF ⟨f, r, o, s, wt⟩ 36 = 5 := by simp [kindF, digB, opeB, motB, findB, plainB, ho]
    intro w
    rw [hz]
    have hx := Ext.alloc w (.cells #[.int .i64 f, .int .i64 r, .int .i64 o, .int .i64 s, .int .i64 wt] 25)
    have HO := Lib.hid (operator_ok 36)
    rw [show opeB 36 = false from rfl] at HO
    clear hz
    unfold ptV
    simp only
    go_enter Try.func16, Try.ntmps16
    go_wp2_with (go_at_call 20; refine (HO.out _).mono ?_; rintro e w' ⟨rfl, rfl⟩)
    go_ret
    exact ⟨rfl, hx⟩
set_option maxRecDepth 20000 in
set_option maxHeartbeats 4000000 in
theorem kind_124 (p : Pt) : KindP p 124 := by
  obtain ⟨f, r, o, s, wt⟩ := p
  by_cases ho : o = 0
  · subst ho
    have hz : kindF ⟨f, r, 0, s, wt⟩ 124 = 5 := by simp [kindF, digB, opeB, motB, findB, plainB]
    intro w
    rw [hz]
    have hx := Ext.alloc w (.cells #[.int .i64 f, .int .i64 r, .int .i64 0, .int .i64 s, .int .i64 wt] 25)
    have HO := Lib.hid (operator_ok 124)
    rw [show opeB 124 = false from rfl] at HO
    clear hz
    unfold ptV
    simp only
    go_enter Try.func16, Try.ntmps16
    go_wp2_with (go_at_call 20; refine (HO.out _).mono ?_; rintro e w' ⟨rfl, rfl⟩)
    go_ret
    exact ⟨rfl, hx⟩
  · have hob : (o == 0) = false := by simpa using ho
    have hz : kindF ⟨f, r, o, s, wt⟩ 124 = 5 := by simp [kindF, digB, opeB, motB, findB, plainB, ho]
    intro w
    rw [hz]
    have hx := Ext.alloc w (.cells #[.int .i64 f, .int .i64 r, .int .i64 o, .int .i64 s, .int .i64 wt] 25)
    have HO := Lib.hid (operator_ok 124)
    rw [show opeB 124 = false from rfl] at HO
    clear hz
    unfold ptV
    simp only
    go_enter Try.func16, Try.ntmps16
    go_wp2_with (go_at_call 20; refine (HO.out _).mono ?_; rintro e w' ⟨rfl, rfl⟩)
    go_ret
    exact ⟨rfl, hx⟩
set_option maxRecDepth 20000 in
set_option maxHeartbeats 4000000 in
theorem kind_119 (p : Pt) : KindP p 119 := by
  obtain ⟨f, r, o, s, wt⟩ := p
  by_cases ho : o = 0
  · subst ho
    have hz : kindF ⟨f, r, 0, s, wt⟩ 119 = 5 := by simp [kindF, digB, opeB, motB, findB, plainB]
    intro w
    rw [hz]
    have hx := Ext.alloc w (.cells #[.int .i64 f, .int .i64 r, .int .i64 0, .int .i64 s, .int .i64 wt] 25)
    have HO := Lib.hid (operator_ok 119)
    rw [show opeB 119 = false from rfl] at HO
    clear hz
    unfold ptV
    simp only
    go_enter Try.func16, Try.ntmps16
    go_wp2_with (go_at_call 20; refine (HO.out _).mono ?_; rintro e w' ⟨rfl, rfl⟩)
    go_ret
    exact ⟨rfl, hx⟩
  · have hob : (o == 0) = false := by simpa using ho
    have hz : kindF ⟨f, r, o, s, wt⟩ 119 = 5 := by simp [kindF, digB, opeB, motB, findB, plainB, ho]
    intro w
    rw [hz]
    have hx := Ext.alloc w (.cells #[.int .i64 f, .int .i64 r, .int .i64 o, .int .i64 s, .int .i64 wt] 25)
    have HO := Lib.hid (operator_ok 119)
    rw [show opeB 119 = false from rfl] at HO
    clear hz
    unfold ptV
    simp only
    go_enter Try.func16, Try.ntmps16
    go_wp2_with (go_at_call 20; refine (HO.out _).mono ?_; rintro e w' ⟨rfl, rfl⟩)
    go_ret
    exact ⟨rfl, hx⟩
set_option maxRecDepth 20000 in
set_option maxHeartbeats 4000000 in
theorem kind_87 (p : Pt) : KindP p 87 := by
  obtain ⟨f, r, o, s, wt⟩ := p
  by_cases ho : o = 0
  · subst ho
    have hz : kindF ⟨f, r, 0, s, wt⟩ 87 = 5 := by simp [kindF, digB, opeB, motB, findB, plainB]
    intro w
    rw [hz]
    have hx := Ext.alloc w (.cells #[.int .i64 f, .int .i64 r, .int .i64 0, .int .i64 s, .int .i64 wt] 25)
    have HO := Lib.hid (operator_ok 87)
    rw [show opeB 87 = false from rfl] at HO
    clear hz
    unfold ptV
    simp only
    go_enter Try.func16, Try.ntmps16
    go_wp2_with (go_at_call 20; refine (HO.out _).mono ?_; rintro e w' ⟨rfl, rfl⟩)
    go_ret
    exact ⟨rfl, hx⟩
  · have hob : (o == 0) = false := by simpa using ho
    have hz : kindF ⟨f, r, o, s, wt⟩ 87 = 5 := by simp [kindF, digB, opeB, motB, findB, plainB, ho]
    intro w
    rw [hz]
    have hx := Ext.alloc w (.cells #[.int .i64 f, .int .i64 r, .int .i64 o, .int .i64 s, .int .i64 wt] 25)
    have HO := Lib.hid (operator_ok 87)
    rw [show opeB 87 = false from rfl] at HO
    clear hz
    unfold ptV
    simp only
    go_enter Try.func16, Try.ntmps16
    go_wp2_with (go_at_call 20; refine (HO.out _).mono ?_; rintro e w' ⟨rfl, rfl⟩)
    go_ret
    exact ⟨rfl, hx⟩
set_option maxRecDepth 20000 in
set_option maxHeartbeats 4000000 in
theorem kind_98 (p : Pt) : KindP p 98 := by
  obtain ⟨f, r, o, s, wt⟩ := p
  by_cases ho : o = 0
  · subst ho
    have hz : kindF ⟨f, r, 0, s, wt⟩ 98 = 5 := by simp [kindF, digB, opeB, motB, findB, plainB]
    intro w
    rw [hz]
    have hx := Ext.alloc w (.cells #[.int .i64 f, .int .i64 r, .int .i64 0, .int .i64 s, .int .i64 wt] 25)
    have HO := Lib.hid (operator_ok 98)
    rw [show opeB 98 = false from rfl] at HO
    clear hz
    unfold ptV
    simp only
    go_enter Try.func16, Try.ntmps16
    go_wp2_with (go_at_call 20; refine (HO.out _).mono ?_; rintro e w' ⟨rfl, rfl⟩)
    go_ret
    exact ⟨rfl, hx⟩
  · have hob : (o == 0) = false := by simpa using ho
    have hz : kindF ⟨f, r, o, s, wt⟩ 98 = 5 := by simp [kindF, digB, opeB, motB, findB, plainB, ho]
    intro w
    rw [hz]
    have hx := Ext.alloc w (.cells #[.int .i64 f, .int .i64 r, .int .i64 o, .int .i64 s, .int .i64 wt] 25)
    have HO := Lib.hid (operator_ok 98)
    rw [show opeB 98 = false from rfl] at HO
    clear hz
    unfold ptV
    simp only
    go_enter Try.func16, Try.ntmps16
    go_wp2_with (go_at_call 20; refine (HO.out _).mono ?_; rintro e w' ⟨rfl, rfl⟩)
    go_ret
    exact ⟨rfl, hx⟩
set_option maxRecDepth 20000 in
set_option maxHeartbeats 4000000 in
theorem kind_66 (p : Pt) : KindP p 66 := by
  obtain ⟨f, r, o, s, wt⟩ := p
  by_cases ho : o = 0
  · subst ho
    have hz : kindF ⟨f, r, 0, s, wt⟩ 66 = 5 := by simp [kindF, digB, opeB, motB, findB, plainB]
    intro w
    rw [hz]
    have hx := Ext.alloc w (.cells #[.int .i64 f, .int .i64 r, .int .i64 0, .int .i64 s, .int .i64 wt] 25)
    have HO := Lib.hid (operator_ok 66)
    rw [show opeB 66 = false from rfl] at HO
    clear hz
    unfold ptV
    simp only
    go_enter Try.func16, Try.ntmps16
    go_wp2_with (go_at_call 20; refine (HO.out _).mono ?_; rintro e w' ⟨rfl, rfl⟩)
    go_ret
    exact ⟨rfl, hx⟩
  · have hob : (o == 0) = false := by simpa using ho
    have hz : kindF ⟨f, r, o, s, wt⟩ 66 = 5 := by simp [kindF, digB, opeB, motB, findB, plainB, ho]
    intro w
    rw [hz]
    have hx := Ext.alloc w (.cells #[.int .i64 f, .int .i64 r, .int .i64 o, .int .i64 s, .int .i64 wt] 25)
    have HO := Lib.hid (operator_ok 66)
    rw [show opeB 66 = false from rfl] at HO
    clear hz
    unfold ptV
    simp only
    go_enter Try.func16, Try.ntmps16
    go_wp2_with (go_at_call 20; refine (HO.out _).mono ?_; rintro e w' ⟨rfl, rfl⟩)
    go_ret
    exact ⟨rfl, hx⟩
set_option maxRecDepth 20000 in
set_option maxHeartbeats 4000000 in
theorem kind_101 (p : Pt) : KindP p 101 := by
  obtain ⟨f, r, o, s, wt⟩ := p
  by_cases ho : o = 0
  · subst ho
    have hz : kindF ⟨f, r, 0, s, wt⟩ 101 = 5 := by simp [kindF, digB, opeB, motB, findB, plainB]
    intro w
    rw [hz]
    have hx := Ext.alloc w (.cells #[.int .i64 f, .int .i64 r, .int .i64 0, .int .i64 s, .int .i64 wt] 25)
    have HO := Lib.hid (operator_ok 101)
    rw [show opeB 101 = false from rfl] at HO
    clear hz
    unfold ptV
    simp only
    go_enter Try.func16, Try.ntmps16
    go_wp2_with (go_at_call 20; refine (HO.out _).mono ?_; rintro e w' ⟨rfl, rfl⟩)
    go_ret
    exact ⟨rfl, hx⟩
  · have hob : (o == 0) = false := by simpa using ho
    have hz : kindF ⟨f, r, o, s, wt⟩ 101 = 5 := by simp [kindF, digB, opeB, motB, findB, plainB, ho]
    intro w
    rw [hz]
    have hx := Ext.alloc w (.cells #[.int .i64 f, .int .i64 r, .int .i64 o, .int .i64 s, .int .i64 wt] 25)
    have HO := Lib.hid (operator_ok 101)
    rw [show opeB 101 = false from rfl] at HO
    clear hz
    unfold ptV
    simp only
    go_enter Try.func16, Try.ntmps16
    go_wp2_with (go_at_call 20; refine (HO.out _).mono ?_; rintro e w' ⟨rfl, rfl⟩)
    go_ret
    exact ⟨rfl, hx⟩
set_option maxRecDepth 20000 in
set_option maxHeartbeats 4000000 in
theorem kind_69 (p : Pt) : KindP p 69 := by
  obtain ⟨f, r, o, s, wt⟩ := p
  by_cases ho : o = 0
  · subst ho
    have hz : kindF ⟨f, r, 0, s, wt⟩ 69 = 5 := by simp [kindF, digB, opeB, motB, findB, plainB]
    intro w
    rw [hz]
    have hx := Ext.alloc w (.cells #[.int .i64 f, .int .i64 r, .int .i64 0, .int .i64 s, .int .i64 wt] 25)
    have HO := Lib.hid (operator_ok 69)
    rw [show opeB 69 = false from rfl] at HO
    clear hz
    unfold ptV
    simp only
    go_enter Try.func16, Try.ntmps16
    go_wp2_with (go_at_call 20; refine (HO.out _).mono ?_; rintro e w' ⟨rfl, rfl⟩)
    go_ret
    exact ⟨rfl, hx⟩
  · have hob : (o == 0) = false := by simpa using ho
    have hz : kindF ⟨f, r, o, s, wt⟩ 69 = 5 := by simp [kindF, digB, opeB, motB, findB, plainB, ho]
    intro w
    rw [hz]
    have hx := Ext.alloc w (.cells #[.int .i64 f, .int .i64 r, .int .i64 o, .int .i64 s, .int .i64 wt] 25)
    have HO := Lib.hid (operator_ok 69)
    rw [show opeB 69 = false from rfl] at HO
    clear hz
    unfold ptV
    simp only
    go_enter Try.func16, Try.ntmps16
    go_wp2_with (go_at_call 20; refine (HO.out _).mono ?_; rintro e w' ⟨rfl, rfl⟩)
    go_ret
    exact ⟨rfl, hx⟩
set_option maxRecDepth 20000 in
set_option maxHeartbeats 4000000 in
theorem kind_37 (p : Pt) : KindP p 37 := by
  obtain ⟨f, r, o, s, wt⟩ := p
  by_cases ho : o = 0
  · subst ho
    have hz : kindF ⟨f, r, 0, s, wt⟩ 37 = 5 := by simp [kindF, digB, opeB, motB, findB, plainB]
    intro w
    rw [hz]
    have hx := Ext.alloc w (.cells #[.int .i64 f, .int .i64 r, .int .i64 0, .int .i64 s, .int .i64 wt] 25)
    have HO := Lib.hid (operator_ok 37)
    rw [show opeB 37 = false from rfl] at HO
    clear hz
    unfold ptV
    simp only
    go_enter Try.func16, Try.ntmps16
    go_wp2_with (go_at_call 20; refine (HO.out _).mono ?_; rintro e w' ⟨rfl, rfl⟩)
    go_ret
    exact ⟨rfl, hx⟩
  · have hob : (o == 0) = false := by simpa using ho
    have hz : kindF ⟨f, r, o, s, wt⟩ 37 = 5 := by simp [kindF, digB, opeB, motB, findB, plainB, ho]
    intro w
    rw [hz]
    have hx := Ext.alloc w (.cells #[.int .i64 f, .int .i64 r, .int .i64 o, .int .i64 s, .int .i64 wt] 25)
    have HO := Lib.hid (operator_ok 37)
    rw [show opeB 37 = false from rfl] at HO
    clear hz
    unfold ptV
    simp only
    go_enter Try.func16, Try.ntmps16
    go_wp2_with (go_at_call 20; refine (HO.out _).mono ?_; rintro e w' ⟨rfl, rfl⟩)
    go_ret
    exact ⟨rfl, hx⟩
set_option maxRecDepth 20000 in
set_option maxHeartbeats 4000000 in
theorem kind_59 (p : Pt) : KindP p 59 := by
  obtain ⟨f, r, o, s, wt⟩ := p
  by_cases ho : o = 0
  · subst ho
    have hz : kindF ⟨f, r, 0, s, wt⟩ 59 = 5 := by simp [kindF, digB, opeB, motB, findB, plainB]
    intro w
    rw [hz]
    have hx := Ext.alloc w (.cells #[.int .i64 f, .int .i64 r, .int .i64 0, .int .i64 s, .int .i64 wt] 25)
    have HO := Lib.hid (operator_ok 59)
    rw [show opeB 59 = false from rfl] at HO
    clear hz
    unfold ptV
    simp only
    go_enter Try.func16, Try.ntmps16
    go_wp2_with (go_at_call 20; refine (HO.out _).mono ?_; rintro e w' ⟨rfl, rfl⟩)
    go_ret
    exact ⟨rfl, hx⟩
  · have hob : (o == 0) = false := by simpa using ho
    have hz : kindF ⟨f, r, o, s, wt⟩ 59 = 5 := by simp [kindF, digB, opeB, motB, findB, plainB, ho]
    intro w
    rw [hz]
    have hx := Ext.alloc w (.cells #[.int .i64 f, .int .i64 r, .int .i64 o, .int .i64 s, .int .i64 wt] 25)
    have HO := Lib.hid (operator_ok 59)
    rw [show opeB 59 = false from rfl] at HO
    clear hz
    unfold ptV
    simp only
    go_enter Try.func16, Try.ntmps16
    go_wp2_with (go_at_call 20; refine (HO.out _).mono ?_; rintro e w' ⟨rfl, rfl⟩)
    go_ret
    exact ⟨rfl, hx⟩
set_option maxRecDepth 20000 in
set_option maxHeartbeats 4000000 in
theorem kind_44 (p : Pt) : KindP p 44 := by
  obtain ⟨f, r, o, s, wt⟩ := p
  by_cases ho : o = 0
  · subst ho
    have hz : kindF ⟨f, r, 0, s, wt⟩ 44 = 5 := by simp [kindF, digB, opeB, motB, findB, plainB]
    intro w
    rw [hz]
    have hx := Ext.alloc w (.cells #[.int .i64 f, .int .i64 r, .int .i64 0, .int .i64 s, .int .i64 wt] 25)
    have HO := Lib.hid (operator_ok 44)
    rw [show opeB 44 = false from rfl] at HO
    clear hz
    unfold ptV
    simp only
    go_enter Try.func16, Try.ntmps16
    go_wp2_with (go_at_call 20; refine (HO.out _).mono ?_; rintro e w' ⟨rfl, rfl⟩)
    go_ret
    exact ⟨rfl, hx⟩
  · have hob : (o == 0) = false := by simpa using ho
    have hz : kindF ⟨f, r, o, s, wt⟩ 44 = 5 := by simp [kindF, digB, opeB, motB, findB, plainB, ho]
    intro w
    rw [hz]
    have hx := Ext.alloc w (.cells #[.int .i64 f, .int .i64 r, .int .i64 o, .int .i64 s, .int .i64 wt] 25)
    have HO := Lib.hid (operator_ok 44)
    rw [show opeB 44 = false from rfl] at HO
    clear hz
    unfold ptV
    simp only
    go_enter Try.func16, Try.ntmps16
    go_wp2_with (go_at_call 20; refine (HO.out _).mono ?_; rintro e w' ⟨rfl, rfl⟩)
    go_ret
    exact ⟨rfl, hx⟩
set_option maxRecDepth 20000 in
set_option maxHeartbeats 4000000 in
theorem kind_102 (p : Pt) : KindP p 102 := by
  obtain ⟨f, r, o, s, wt⟩ := p
  by_cases ho : o = 0
  · subst ho
    have hz : kindF ⟨f, r, 0, s, wt⟩ 102 = 4 := by simp [kindF, digB, opeB, motB, findB, plainB]
    intro w
    rw [hz]
    have hx := Ext.alloc w (.cells #[.int .i64 f, .int .i64 r, .int .i64 0, .int .i64 s, .int .i64 wt] 25)
    have HO := Lib.hid (operator_ok 102)
    rw [show opeB 102 = false from rfl] at HO
    clear hz
    unfold ptV
    simp only
    go_enter Try.func16, Try.ntmps16
    go_wp2_with (go_at_call 20; refine (HO.out _).mono ?_; rintro e w' ⟨rfl, rfl⟩)
    go_ret
    exact ⟨rfl, hx⟩
  · have hob : (o == 0) = false := by simpa using ho
    have hz : kindF ⟨f, r, o, s, wt⟩ 102 = 4 := by simp [kindF, digB, opeB, motB, findB, plainB, ho]
    intro w
    rw [hz]
    have hx := Ext.alloc w (.cells #[.int .i64 f, .int .i64 r, .int .i64 o, .int .i64 s, .int .i64 wt] 25)
    have HO := Lib.hid (operator_ok 102)
    rw [show opeB 102 = false from rfl] at HO
    clear hz
    unfold ptV
    simp only
    go_enter Try.func16, Try.ntmps16
    go_wp2_with (go_at_call 20; refine (HO.out _).mono ?_; rintro e w' ⟨rfl, rfl⟩)
    go_ret
    exact ⟨rfl, hx⟩
set_option maxRecDepth 20000 in
set_option maxHeartbeats 4000000 in
theorem kind_70 (p : Pt) : KindP p 70 := by
  obtain ⟨f, r, o, s, wt⟩ := p
  by_cases ho : o = 0
  · subst ho
    have hz : kindF ⟨f, r, 0, s, wt⟩ 70 = 4 := by simp [kindF, digB, opeB, motB, findB, plainB]
    intro w
    rw [hz]
    have hx := Ext.alloc w (.cells #[.int .i64 f, .int .i64 r, .int .i64 0, .int .i64 s, .int .i64 wt] 25)
    have HO := Lib.hid (operator_ok 70)
    rw [show opeB 70 = false from rfl] at HO
    clear hz
    unfold ptV
    simp only
    go_enter Try.func16, Try.ntmps16
    go_wp2_with (go_at_call 20; refine (HO.out _).mono ?_; rintro e w' ⟨rfl, rfl⟩)
    go_ret
    exact ⟨rfl, hx⟩
  · have hob : (o == 0) = false := by simpa using ho
    have hz : kindF ⟨f, r, o, s, wt⟩ 70 = 4 := by simp [kindF, digB, opeB, motB, findB, plainB, ho]
    intro w
    rw [hz]
    have hx := Ext.alloc w (.cells #[.int .i64 f, .int .i64 r, .int .i64 o, .int .i64 s, .int .i64 wt] 25)
    have HO := Lib.hid (operator_ok 70)
    rw [show opeB 70 = false from rfl] at HO
    clear hz
    unfold ptV
    simp only
    go_enter Try.func16, Try.ntmps16
    go_wp2_with (go_at_call 20; refine (HO.out _).mono ?_; rintro e w' ⟨rfl, rfl⟩)
    go_ret
    exact ⟨rfl, hx⟩
set_option maxRecDepth 20000 in
set_option maxHeartbeats 4000000 in
theorem kind_116 (p : Pt) : KindP p 116 := by
  obtain ⟨f, r, o, s, wt⟩ := p
  by_cases ho : o = 0
  · subst ho
    have hz : kindF ⟨f, r, 0, s, wt⟩ 116 = 4 := by simp [kindF, digB, opeB, motB, findB, plainB]
    intro w
    rw [hz]
    have hx := Ext.alloc w (.cells #[.int .i64 f, .int .i64 r, .int .i64 0, .int .i64 s, .int .i64 wt] 25)
    have HO := Lib.hid (operator_ok 116)
    rw [show opeB 116 = false from rfl] at HO
    clear hz
    unfold ptV
    simp only
    go_enter Try.func16, Try.ntmps16
    go_wp2_with (go_at_call 20; refine (HO.out _).mono ?_; rintro e w' ⟨rfl, rfl⟩)
    go_ret
    exact ⟨rfl, hx⟩
  · have hob : (o == 0) = false := by simpa using ho
    have hz : kindF ⟨f, r, o, s, wt⟩ 116 = 4 := by simp [kindF, digB, opeB, motB, findB, plainB, ho]
    intro w
    rw [hz]
    have hx := Ext.alloc w (.cells #[.int .i64 f, .int .i64 r, .int .i64 o, .int .i64 s, .int .i64 wt] 25)
    have HO := Lib.hid (operator_ok 116)
    rw [show opeB 116 = false from rfl] at HO
    clear hz
    unfold ptV
    simp only
    go_enter Try.func16, Try.ntmps16
    go_wp2_with (go_at_call 20; refine (HO.out _).mono ?_; rintro e w' ⟨rfl, rfl⟩)
    go_ret
    exact ⟨rfl, hx⟩
set_option maxRecDepth 20000 in
set_option maxHeartbeats 4000000 in
theorem kind_84 (p : Pt) : KindP p 84 := by
  obtain ⟨f, r, o, s, wt⟩ := p
  by_cases ho : o = 0
  · subst ho
    have hz : kindF ⟨f, r, 0, s, wt⟩ 84 = 4 := by simp [kindF, digB, opeB, motB, findB, plainB]
    intro w
    rw [hz]
    have hx := Ext.alloc w (.cells #[.int .i64 f, .int .i64 r, .int .i64 0, .int .i64 s, .int .i64 wt] 25)
    have HO := Lib.hid (operator_ok 84)
    rw [show opeB 84 = false from rfl] at HO
    clear hz
    unfold ptV
    simp only
    go_enter Try.func16, Try.ntmps16
    go_wp2_with (go_at_call 20; refine (HO.out _).mono ?_; rintro e w' ⟨rfl, rfl⟩)
    go_ret
    exact ⟨rfl, hx⟩
  · have hob : (o == 0) = false := by simpa using ho
    have hz : kindF ⟨f, r, o, s, wt⟩ 84 = 4 := by simp [kindF, digB, opeB, motB, findB, plainB, ho]
    intro w
    rw [hz]
    have hx := Ext.alloc w (.cells #[.int .i64 f, .int .i64 r, .int .i64 o, .int .i64 s, .int .i64 wt] 25)
    have HO := Lib.hid (operator_ok 84)
    rw [show opeB 84 = false from rfl] at HO
    clear hz
    unfold ptV
    simp only
    go_enter Try.func16, Try.ntmps16
    go_wp2_with (go_at_call 20; refine (HO.out _).mono ?_; rintro e w' ⟨rfl, rfl⟩)
    go_ret
    exact ⟨rfl, hx⟩
set_option maxRecDepth 20000 in
set_option maxHeartbeats 4000000 in
theorem kind_105 (p : Pt) : KindP p 105 := by
  obtain ⟨f, r, o, s, wt⟩ := p
  by_cases ho : o = 0
  · subst ho
    have hz : kindF ⟨f, r, 0, s, wt⟩ 105 = 6 := by simp [kindF, digB, opeB, motB, findB, plainB]
    intro w
    rw [hz]
    have hx := Ext.alloc w (.cells #[.int .i64 f, .int .i64 r, .int .i64 0, .int .i64 s, .int .i64 wt] 25)
    have HO := Lib.hid (operator_ok 105)
    rw [show opeB 105 = false from rfl] at HO
    clear hz
    unfold ptV
    simp only
    go_enter Try.func16, Try.ntmps16
    go_wp2_with (go_at_call 20; refine (HO.out _).mono ?_; rintro e w' ⟨rfl, rfl⟩)
    go_ret
    exact ⟨rfl, hx⟩
  · have hob : (o == 0) = false := by simpa using ho
    have hz : kindF ⟨f, r, o, s, wt⟩ 105 = 8 := by simp [kindF, digB, opeB, motB, findB, plainB, ho]
    intro w
    rw [hz]
    have hx := Ext.alloc w (.cells #[.int .i64 f, .int .i64 r, .int .i64 o, .int .i64 s, .int .i64 wt] 25)
    have HO := Lib.hid (operator_ok 105)
    rw [show opeB 105 = false from rfl] at HO
    clear hz
    unfold ptV
    simp only
    go_enter Try.func16, Try.ntmps16
    go_wp2_with (go_at_call 20; refine (HO.out _).mono ?_; rintro e w' ⟨rfl, rfl⟩)
    go_ret
    exact ⟨rfl, hx⟩
set_option maxRecDepth 20000 in
set_option maxHeartbeats 4000000 in
theorem kind_97 (p : Pt) : KindP p 97 := by
  obtain ⟨f, r, o, s, wt⟩ := p
  by_cases ho : o = 0
  · subst ho
    have hz : kindF ⟨f, r, 0, s, wt⟩ 97 = 6 := by simp [kindF, digB, opeB, motB, findB, plainB]
    intro w
    rw [hz]
    have hx := Ext.alloc w (.cells #[.int .i64 f, .int .i64 r, .int .i64 0, .int .i64 s, .int .i64 wt] 25)
    have HO := Lib.hid (operator_ok 97)
    rw [show opeB 97 = false from rfl] at HO
    clear hz
    unfold ptV
    simp only
    go_enter Try.func16, Try.ntmps16
    go_wp2_with (go_at_call 20; refine (HO.out _).mono ?_; rintro e w' ⟨rfl, rfl⟩)
    go_ret
    exact ⟨rfl, hx⟩
  · have hob : (o == 0) = false := by simpa using ho
    have hz : kindF ⟨f, r, o, s, wt⟩ 97 = 8 := by simp [kindF, digB, opeB, motB, findB, plainB, ho]
    intro w
    rw [hz]
    have hx := Ext.alloc w (.cells #[.int .i64 f, .int .i64 r, .int .i64 o, .int .i64 s, .int .i64 wt] 25)
    have HO := Lib.hid (operator_ok 97)
    rw [show opeB 97 = false from rfl] at HO
    clear hz
    unfold ptV
    simp only
    go_enter Try.func16, Try.ntmps16
    go_wp2_with (go_at_call 20; refine (HO.out _).mono ?_; rintro e w' ⟨rfl, rfl⟩)
    go_ret
    exact ⟨rfl, hx⟩
set_option maxRecDepth 20000 in
set_option maxHeartbeats 4000000 in
theorem kind_73 (p : Pt) : KindP p 73 := by
  obtain ⟨f, r, o, s, wt⟩ := p
  by_cases ho : o = 0
  · subst ho
    have hz : kindF ⟨f, r, 0, s, wt⟩ 73 = 6 := by simp [kindF, digB, opeB, motB, findB, plainB]
    intro w
    rw [hz]
    have hx := Ext.alloc w (.cells #[.int .i64 f, .int .i64 r, .int .i64 0, .int .i64 s, .int .i64 wt] 25)
    have HO := Lib.hid (operator_ok 73)
    rw [show opeB 73 = false from rfl] at HO
    clear hz
    unfold ptV
    simp only
    go_enter Try.func16, Try.ntmps16
    go_wp2_with (go_at_call 20; refine (HO.out _).mono ?_; rintro e w' ⟨rfl, rfl⟩)
    go_ret
    exact ⟨rfl, hx⟩
  · have hob : (o == 0) = false := by simpa using ho
    have hz : kindF ⟨f, r, o, s, wt⟩ 73 = 0 := by simp [kindF, digB, opeB, motB, findB, plainB, ho]
    intro w
    rw [hz]
    have hx := Ext.alloc w (.cells #[.int .i64 f, .int .i64 r, .int .i64 o, .int .i64 s, .int .i64 wt] 25)
    have HO := Lib.hid (operator_ok 73)
    rw [show opeB 73 = false from rfl] at HO
    clear hz
    unfold ptV
    simp only
    go_enter Try.func16, Try.ntmps16
    go_wp2_with (go_at_call 20; refine (HO.out _).mono ?_; rintro e w' ⟨rfl, rfl⟩)
    go_ret
    exact ⟨rfl, hx⟩
set_option maxRecDepth 20000 in
set_option maxHeartbeats 4000000 in
theorem kind_65 (p : Pt) : KindP p 65 := by
  obtain ⟨f, r, o, s, wt⟩ := p
  by_cases ho : o = 0
  · subst ho
    have hz : kindF ⟨f, r, 0, s, wt⟩ 65 = 6 := by simp [kindF, digB, opeB, motB, findB, plainB]
    intro w
    rw [hz]
    have hx := Ext.alloc w (.cells #[.int .i64 f, .int .i64 r, .int .i64 0, .int .i64 s, .int .i64 wt] 25)
    have HO := Lib.hid (operator_ok 65)
    rw [show opeB 65 = false from rfl] at HO
    clear hz
    unfold ptV
    simp only
    go_enter Try.func16, Try.ntmps16
    go_wp2_with (go_at_call 20; refine (HO.out _).mono ?_; rintro e w' ⟨rfl, rfl⟩)
    go_ret
    exact ⟨rfl, hx⟩
  · have hob : (o == 0) = false := by simpa using ho
    have hz : kindF ⟨f, r, o, s, wt⟩ 65 = 0 := by simp [kindF, digB, opeB, motB, findB, plainB, ho]
    intro w
    rw [hz]
    have hx := Ext.alloc w (.cells #[.int .i64 f, .int .i64 r, .int .i64 o, .int .i64 s, .int .i64 wt] 25)
    have HO := Lib.hid (operator_ok 65)
    rw [show opeB 65 = false from rfl] at HO
    clear hz
    unfold ptV
    simp only
    go_enter Try.func16, Try.ntmps16
    go_wp2_with (go_at_call 20; refine (HO.out _).mono ?_; rintro e w' ⟨rfl, rfl⟩)
    go_ret
    exact ⟨rfl, hx⟩
set_option maxRecDepth 20000 in
set_option maxHeartbeats 4000000 in
theorem kind_115 (p : Pt) : KindP p 115 := by
  obtain ⟨f, r, o, s, wt⟩ := p
  by_cases ho : o = 0
  · subst ho
    have hz : kindF ⟨f, r, 0, s, wt⟩ 115 = 6 := by simp [kindF, digB, opeB, motB, findB, plainB]
    intro w
    rw [hz]
    have hx := Ext.alloc w (.cells #[.int .i64 f, .int .i64 r, .int .i64 0, .int .i64 s, .int .i64 wt] 25)
    have HO := Lib.hid (operator_ok 115)
    rw [show opeB 115 = false from rfl] at HO
    clear hz
    unfold ptV
    simp only
    go_enter Try.func16, Try.ntmps16
    go_wp2_with (go_at_call 20; refine (HO.out _).mono ?_; rintro e w' ⟨rfl, rfl⟩)
    go_ret
    exact ⟨rfl, hx⟩
  · have hob : (o == 0) = false := by simpa using ho
    have hz : kindF ⟨f, r, o, s, wt⟩ 115 = 0 := by simp [kindF, digB, opeB, motB, findB, plainB, ho]
    intro w
    rw [hz]
    have hx := Ext.alloc w (.cells #[.int .i64 f, .int .i64 r, .int .i64 o, .int .i64 s, .int .i64 wt] 25)
    have HO := Lib.hid (operator_ok 115)
    rw [show opeB 115 = false from rfl] at HO
    clear hz
    unfold ptV
    simp only
    go_enter Try.func16, Try.ntmps16
    go_wp2_with (go_at_call 20; refine (HO.out _).mono ?_; rintro e w' ⟨rfl, rfl⟩)
    go_ret
    exact ⟨rfl, hx⟩
set_option maxRecDepth 20000 in
set_option maxHeartbeats 4000000 in
theorem kind_83 (p : Pt) : KindP p 83 := by
  obtain ⟨f, r, o, s, wt⟩ := p
  by_cases ho : o = 0
  · subst ho
    have hz : kindF ⟨f, r, 0, s, wt⟩ 83 = 6 := by simp [kindF, digB, opeB, motB, findB, plainB]
    intro w
    rw [hz]
    have hx := Ext.alloc w (.cells #[.int .i64 f, .int .i64 r, .int .i64 0, .int .i64 s, .int .i64 wt] 25)
    have HO := Lib.hid (operator_ok 83)
    rw [show opeB 83 = false from rfl] at HO
    clear hz
    unfold ptV
    simp only
    go_enter Try.func16, Try.ntmps16
    go_wp2_with (go_at_call 20; refine (HO.out _).mono ?_; rintro e w' ⟨rfl, rfl⟩)
    go_ret
    exact ⟨rfl, hx⟩
  · have hob : (o == 0) = false := by simpa using ho
    have hz : kindF ⟨f, r, o, s, wt⟩ 83 = 0 := by simp [kindF, digB, opeB, motB, findB, plainB, ho]
    intro w
    rw [hz]
    have hx := Ext.alloc w (.cells #[.int .i64 f, .int .i64 r, .int .i64 o, .int .i64 s, .int .i64 wt] 25)
    have HO := Lib.hid (operator_ok 83)
    rw [show opeB 83 = false from rfl] at HO
    clear hz
    unfold ptV
    simp only
    go_enter Try.func16, Try.ntmps16
    go_wp2_with (go_at_call 20; refine (HO.out _).mono ?_; rintro e w' ⟨rfl, rfl⟩)
    go_ret
    exact ⟨rfl, hx⟩
set_option maxRecDepth 20000 in
set_option maxHeartbeats 4000000 in
theorem kind_67 (p : Pt) : KindP p 67 := by
  obtain ⟨f, r, o, s, wt⟩ := p
  by_cases ho : o = 0
  · subst ho
    have hz : kindF ⟨f, r, 0, s, wt⟩ 67 = 6 := by simp [kindF, digB, opeB, motB, findB, plainB]
    intro w
    rw [hz]
    have hx := Ext.alloc w (.cells #[.int .i64 f, .int .i64 r, .int .i64 0, .int .i64 s, .int .i64 wt] 25)
    have HO := Lib.hid (operator_ok 67)
    rw [show opeB 67 = false from rfl] at HO
    clear hz
    unfold ptV
    simp only
    go_enter Try.func16, Try.ntmps16
    go_wp2_with (go_at_call 20; refine (HO.out _).mono ?_; rintro e w' ⟨rfl, rfl⟩)
    go_ret
    exact ⟨rfl, hx⟩
  · have hob : (o == 0) = false := by simpa using ho
    have hz : kindF ⟨f, r, o, s, wt⟩ 67 = 0 := by simp [kindF, digB, opeB, motB, findB, plainB, ho]
    intro w
    rw [hz]
    have hx := Ext.alloc w (.cells #[.int .i64 f, .int .i64 r, .int .i64 o, .int .i64 s, .int .i64 wt] 25)
    have HO := Lib.hid (operator_ok 67)
    rw [show opeB 67 = false from rfl] at HO
    clear hz
    unfold ptV
    simp only
    go_enter Try.func16, Try.ntmps16
    go_wp2_with (go_at_call 20; refine (HO.out _).mono ?_; rintro e w' ⟨rfl, rfl⟩)
    go_ret
    exact ⟨rfl, hx⟩
set_option maxRecDepth 20000 in
set_option maxHeartbeats 4000000 in
theorem kind_68 (p : Pt) : KindP p 68 := by
  obtain ⟨f, r, o, s, wt⟩ := p
  by_cases ho : o = 0
  · subst ho
    have hz : kindF ⟨f, r, 0, s, wt⟩ 68 = 6 := by simp [kindF, digB, opeB, motB, findB, plainB]
    intro w
    rw [hz]
    have hx := Ext.alloc w (.cells #[.int .i64 f, .int .i64 r, .int .i64 0, .int .i64 s, .int .i64 wt] 25)
    have HO := Lib.hid (operator_ok 68)
    rw [show opeB 68 = false from rfl] at HO
    clear hz
    unfold ptV
    simp only
    go_enter Try.func16, Try.ntmps16
    go_wp2_with (go_at_call 20; refine (HO.out _).mono ?_; rintro e w' ⟨rfl, rfl⟩)
    go_ret
    exact ⟨rfl, hx⟩
  · have hob : (o == 0) = false := by simpa using ho
    have hz : kindF ⟨f, r, o, s, wt⟩ 68 = 0 := by simp [kindF, digB, opeB, motB, findB, plainB, ho]
    intro w
    rw [hz]
    have hx := Ext.alloc w (.cells #[.int .i64 f, .int .i64 r, .int .i64 o, .int .i64 s, .int .i64 wt] 25)
    have HO := Lib.hid (operator_ok 68)
    rw [show opeB 68 = false from rfl] at HO
    clear hz
    unfold ptV
    simp only
    go_enter Try.func16, Try.ntmps16
    go_wp2_with (go_at_call 20; refine (HO.out _).mono ?_; rintro e w' ⟨rfl, rfl⟩)
    go_ret
    exact ⟨rfl, hx⟩
set_option maxRecDepth 20000 in
set_option maxHeartbeats 4000000 in
theorem kind_120 (p : Pt) : KindP p 120 := by
  obtain ⟨f, r, o, s, wt⟩ := p
  by_cases ho : o = 0
  · subst ho
    have hz : kindF ⟨f, r, 0, s, wt⟩ 120 = 6 := by simp [kindF, digB, opeB, motB, findB, plainB]
    intro w
    rw [hz]
    have hx := Ext.alloc w (.cells #[.int .i64 f, .int .i64 r, .int .i64 0, .int .i64 s, .int .i64 wt] 25)
    have HO := Lib.hid (operator_ok 120)
    rw [show opeB 120 = false from rfl] at HO
    clear hz
    unfold ptV
    simp only
    go_enter Try.func16, Try.ntmps16
    go_wp2_with (go_at_call 20; refine (HO.out _).mono ?_; rintro e w' ⟨rfl, rfl⟩)
    go_ret
    exact ⟨rfl, hx⟩
  · have hob : (o == 0) = false := by simpa using ho
    have hz : kindF ⟨f, r, o, s, wt⟩ 120 = 0 := by simp [kindF, digB, opeB, motB, findB, plainB, ho]
    intro w
    rw [hz]
    have hx := Ext.alloc w (.cells #[.int .i64 f, .int .i64 r, .int .i64 o, .int .i64 s, .int .i64 wt] 25)
    have HO := Lib.hid (operator_ok 120)
    rw [show opeB 120 = false from rfl] at HO
    clear hz
    unfold ptV
    simp only
    go_enter Try.func16, Try.ntmps16
    go_wp2_with (go_at_call 20; refine (HO.out _).mono ?_; rintro e w' ⟨rfl, rfl⟩)
    go_ret
    exact ⟨rfl, hx⟩
set_option maxRecDepth 20000 in
set_option maxHeartbeats 4000000 in
theorem kind_88 (p : Pt) : KindP p 88 := by
  obtain ⟨f, r, o, s, wt⟩ := p
  by_cases ho : o = 0
  · subst ho
    have hz : kindF ⟨f, r, 0, s, wt⟩ 88 = 6 := by simp [kindF, digB, opeB, motB, findB, plainB]
    intro w
    rw [hz]
    have hx := Ext.alloc w (.cells #[.int .i64 f, .int .i64 r, .int .i64 0, .int .i64 s, .int .i64 wt] 25)
    have HO := Lib.hid (operator_ok 88)
    rw [show opeB 88 = false from rfl] at HO
    clear hz
    unfold ptV
    simp only
    go_enter Try.func16, Try.ntmps16
    go_wp2_with (go_at_call 20; refine (HO.out _).mono ?_; rintro e w' ⟨rfl, rfl⟩)
    go_ret
    exact ⟨rfl, hx⟩
  · have hob : (o == 0) = false := by simpa using ho
    have hz : kindF ⟨f, r, o, s, wt⟩ 88 = 0 := by simp [kindF, digB, opeB, motB, findB, plainB, ho]
    intro w
    rw [hz]
    have hx := Ext.alloc w (.cells #[.int .i64 f, .int .i64 r, .int .i64 o, .int .i64 s, .int .i64 wt] 25)
    have HO := Lib.hid (operator_ok 88)
    rw [show opeB 88 = false from rfl] at HO
    clear hz
    unfold ptV
    simp only
    go_enter Try.func16, Try.ntmps16
    go_wp2_with (go_at_call 20; refine (HO.out _).mono ?_; rintro e w' ⟨rfl, rfl⟩)
    go_ret
    exact ⟨rfl, hx⟩
set_option maxRecDepth 20000 in
set_option maxHeartbeats 4000000 in
theorem kind_112 (p : Pt) : KindP p 112 := by
  obtain ⟨f, r, o, s, wt⟩ := p
  by_cases ho : o = 0
  · subst ho
    have hz : kindF ⟨f, r, 0, s, wt⟩ 112 = 6 := by simp [kindF, digB, opeB, motB, findB, plainB]
    intro w
    rw [hz]
    have hx := Ext.alloc w (.cells #[.int .i64 f, .int .i64 r, .int .i64 0, .int .i64 s, .int .i64 wt] 25)
    have HO := Lib.hid (operator_ok 112)
    rw [show opeB 112 = false from rfl] at HO
    clear hz
    unfold ptV
    simp only
    go_enter Try.func16, Try.ntmps16
    go_wp2_with (go_at_call 20; refine (HO.out _).mono ?_; rintro e w' ⟨rfl, rfl⟩)
    go_ret
    exact ⟨rfl, hx⟩
  · have hob : (o == 0) = false := by simpa using ho
    have hz : kindF ⟨f, r, o, s, wt⟩ 112 = 0 := by simp [kindF, digB, opeB, motB, findB, plainB, ho]
    intro w
    rw [hz]
    have hx := Ext.alloc w (.cells #[.int .i64 f, .int .i64 r, .int .i64 o, .int .i64 s, .int .i64 wt] 25)
    have HO := Lib.hid (operator_ok 112)
    rw [show opeB 112 = false from rfl] at HO
    clear hz
    unfold ptV
    simp only
    go_enter Try.func16, Try.ntmps16
    go_wp2_with (go_at_call 20; refine (HO.out _).mono ?_; rintro e w' ⟨rfl, rfl⟩)
    go_ret
    exact ⟨rfl, hx⟩
set_option maxRecDepth 20000 in
set_option maxHeartbeats 4000000 in
theorem kind_80 (p : Pt) : KindP p 80 := by
  obtain ⟨f, r, o, s, wt⟩ := p
  by_cases ho : o = 0
  · subst ho
    have hz : kindF ⟨f, r, 0, s, wt⟩ 80 = 6 := by simp [kindF, digB, opeB, motB, findB, plainB]
    intro w
    rw [hz]
    have hx := Ext.alloc w (.cells #[.int .i64 f, .int .i64 r, .int .i64 0, .int .i64 s, .int .i64 wt] 25)
    have HO := Lib.hid (operator_ok 80)
    rw [show opeB 80 = false from rfl] at HO
    clear hz
    unfold ptV
    simp only
    go_enter Try.func16, Try.ntmps16
    go_wp2_with (go_at_call 20; refine (HO.out _).mono ?_; rintro e w' ⟨rfl, rfl⟩)
    go_ret
    exact ⟨rfl, hx⟩
  · have hob : (o == 0) = false := by simpa using ho
    have hz : kindF ⟨f, r, o, s, wt⟩ 80 = 0 := by simp [kindF, digB, opeB, motB, findB, plainB, ho]
    intro w
    rw [hz]
    have hx := Ext.alloc w (.cells #[.int .i64 f, .int .i64 r, .int .i64 o, .int .i64 s, .int .i64 wt] 25)
    have HO := Lib.hid (operator_ok 80)
    rw [show opeB 80 = false from rfl] at HO
    clear hz
    unfold ptV
    simp only
    go_enter Try.func16, Try.ntmps16
    go_wp2_with (go_at_call 20; refine (HO.out _).mono ?_; rintro e w' ⟨rfl, rfl⟩)
    go_ret
    exact ⟨rfl, hx⟩
set_option maxRecDepth 20000 in
set_option maxHeartbeats 4000000 in
theorem kind_89 (p : Pt) : KindP p 89 := by
  obtain ⟨f, r, o, s, wt⟩ := p
  by_cases ho : o = 0
  · subst ho
    have hz : kindF ⟨f, r, 0, s, wt⟩ 89 = 6 := by simp [kindF, digB, opeB, motB, findB, plainB]
    intro w
    rw [hz]
    have hx := Ext.alloc w (.cells #[.int .i64 f, .int .i64 r, .int .i64 0, .int .i64 s, .int .i64 wt] 25)
    have HO := Lib.hid (operator_ok 89)
    rw [show opeB 89 = false from rfl] at HO
    clear hz
    unfold ptV
    simp only
    go_enter Try.func16, Try.ntmps16
    go_wp2_with (go_at_call 20; refine (HO.out _).mono ?_; rintro e w' ⟨rfl, rfl⟩)
    go_ret
    exact ⟨rfl, hx⟩
  · have hob : (o == 0) = false := by simpa using ho
    have hz : kindF ⟨f, r, o, s, wt⟩ 89 = 0 := by simp [kindF, digB, opeB, motB, findB, plainB, ho]
    intro w
    rw [hz]
    have hx := Ext.alloc w (.cells #[.int .i64 f, .int .i64 r, .int .i64 o, .int .i64 s, .int .i64 wt] 25)
    have HO := Lib.hid (operator_ok 89)
    rw [show opeB 89 = false from rfl] at HO
    clear hz
    unfold ptV
    simp only
    go_enter Try.func16, Try.ntmps16
    go_wp2_with (go_at_call 20; refine (HO.out _).mono ?_; rintro e w' ⟨rfl, rfl⟩)
    go_ret
    exact ⟨rfl, hx⟩
set_option maxRecDepth 20000 in
set_option maxHeartbeats 4000000 in
theorem kind_126 (p : Pt) : KindP p 126 := by
  obtain ⟨f, r, o, s, wt⟩ := p
  by_cases ho : o = 0
  · subst ho
    have hz : kindF ⟨f, r, 0, s, wt⟩ 126 = 6 := by simp [kindF, digB, opeB, motB, findB, plainB]
    intro w
    rw [hz]
    have hx := Ext.alloc w (.cells #[.int .i64 f, .int .i64 r, .int .i64 0, .int .i64 s, .int .i64 wt] 25)
    have HO := Lib.hid (operator_ok 126)
    rw [show opeB 126 = false from rfl] at HO
    clear hz
    unfold ptV
    simp only
    go_enter Try.func16, Try.ntmps16
    go_wp2_with (go_at_call 20; refine (HO.out _).mono ?_; rintro e w' ⟨rfl, rfl⟩)
    go_ret
    exact ⟨rfl, hx⟩
  · have hob : (o == 0) = false := by simpa using ho
    have hz : kindF ⟨f, r, o, s, wt⟩ 126 = 0 := by simp [kindF, digB, opeB, motB, findB, plainB, ho]
    intro w
    rw [hz]
    have hx := Ext.alloc w (.cells #[.int .i64 f, .int .i64 r, .int .i64 o, .int .i64 s, .int .i64 wt] 25)
    have HO := Lib.hid (operator_ok 126)
    rw [show opeB 126 = false from rfl] at HO
    clear hz
    unfold ptV
    simp only
    go_enter Try.func16, Try.ntmps16
    go_wp2_with (go_at_call 20; refine (HO.out _).mono ?_; rintro e w' ⟨rfl, rfl⟩)
    go_ret
    exact ⟨rfl, hx⟩
set_option maxRecDepth 20000 in
set_option maxHeartbeats 4000000 in
theorem kind_117 (p : Pt) : KindP p 117 := by
  obtain ⟨f, r, o, s, wt⟩ := p
  by_cases ho : o = 0
  · subst ho
    have hz : kindF ⟨f, r, 0, s, wt⟩ 117 = 6 := by simp [kindF, digB, opeB, motB, findB, plainB]
    intro w
    rw [hz]
    have hx := Ext.alloc w (.cells #[.int .i64 f, .int .i64 r, .int .i64 0, .int .i64 s, .int .i64 wt] 25)
    have HO := Lib.hid (operator_ok 117)
    rw [show opeB 117 = false from rfl] at HO
    clear hz
    unfold ptV
    simp only
    go_enter Try.func16, Try.ntmps16
    go_wp2_with (go_at_call 20; refine (HO.out _).mono ?_; rintro e w' ⟨rfl, rfl⟩)
    go_ret
    exact ⟨rfl, hx⟩
  · have hob : (o == 0) = false := by simpa using ho
    have hz : kindF ⟨f, r, o, s, wt⟩ 117 = 0 := by simp [kindF, digB, opeB, motB, findB, plainB, ho]
    intro w
    rw [hz]
    have hx := Ext.alloc w (.cells #[.int .i64 f, .int .i64 r, .int .i64 o, .int .i64 s, .int .i64 wt] 25)
    have HO := Lib.hid (operator_ok 117)
    rw [show opeB 117 = false from rfl] at HO
    clear hz
    unfold ptV
    simp only
    go_enter Try.func16, Try.ntmps16
    go_wp2_with (go_at_call 20; refine (HO.out _).mono ?_; rintro e w' ⟨rfl, rfl⟩)
    go_ret
    exact ⟨rfl, hx⟩
set_option maxRecDepth 20000 in
set_option maxHeartbeats 4000000 in
theorem kind_85 (p : Pt) : KindP p 85 := by
  obtain ⟨f, r, o, s, wt⟩ := p
  by_cases ho : o = 0
  · subst ho
    have hz : kindF ⟨f, r, 0, s, wt⟩ 85 = 6 := by simp [kindF, digB, opeB, motB, findB, plainB]
    intro w
    rw [hz]
    have hx := Ext.alloc w (.cells #[.int .i64 f, .int .i64 r, .int .i64 0, .int .i64 s, .int .i64 wt] 25)
    have HO := Lib.hid (operator_ok 85)
    rw [show opeB 85 = false from rfl] at HO
    clear hz
    unfold ptV
    simp only
    go_enter Try.func16, Try.ntmps16
    go_wp2_with (go_at_call 20; refine (HO.out _).mono ?_; rintro e w' ⟨rfl, rfl⟩)
    go_ret
    exact ⟨rfl, hx⟩
  · have hob : (o == 0) = false := by simpa using ho
    have hz : kindF ⟨f, r, o, s, wt⟩ 85 = 0 := by simp [kindF, digB, opeB, motB, findB, plainB, ho]
    intro w
    rw [hz]
    have hx := Ext.alloc w (.cells #[.int .i64 f, .int .i64 r, .int .i64 o, .int .i64 s, .int .i64 wt] 25)
    have HO := Lib.hid (operator_ok 85)
    rw [show opeB 85 = false from rfl] at HO
    clear hz
    unfold ptV
    simp only
    go_enter Try.func16, Try.ntmps16
    go_wp2_with (go_at_call 20; refine (HO.out _).mono ?_; rintro e w' ⟨rfl, rfl⟩)
    go_ret
    exact ⟨rfl, hx⟩
set_option maxRecDepth 20000 in
set_option maxHeartbeats 4000000 in
theorem kind_46 (p : Pt) : KindP p 46 := by
  obtain ⟨f, r, o, s, wt⟩ := p
  by_cases ho : o = 0
  · subst ho
    have hz : kindF ⟨f, r, 0, s, wt⟩ 46 = 6 := by simp [kindF, digB, opeB, motB, findB, plainB]
    intro w
    rw [hz]
    have hx := Ext.alloc w (.cells #[.int .i64 f, .int .i64 r, .int .i64 0, .int .i64 s, .int .i64 wt] 25)
    have HO := Lib.hid (operator_ok 46)
    rw [show opeB 46 = false from rfl] at HO
    clear hz
    unfold ptV
    simp only
    go_enter Try.func16, Try.ntmps16
    go_wp2_with (go_at_call 20; refine (HO.out _).mono ?_; rintro e w' ⟨rfl, rfl⟩)
    go_ret
    exact ⟨rfl, hx⟩
  · have hob : (o == 0) = false := by simpa using ho
    have hz : kindF ⟨f, r, o, s, wt⟩ 46 = 0 := by simp [kindF, digB, opeB, motB, findB, plainB, ho]
    intro w
    rw [hz]
    have hx := Ext.alloc w (.cells #[.int .i64 f, .int .i64 r, .int .i64 o, .int .i64 s, .int .i64 wt] 25)
    have HO := Lib.hid (operator_ok 46)
    rw [show opeB 46 = false from rfl] at HO
    clear hz
    unfold ptV
    simp only
    go_enter Try.func16, Try.ntmps16
    go_wp2_with (go_at_call 20; refine (HO.out _).mono ?_; rintro e w' ⟨rfl, rfl⟩)
    go_ret
    exact ⟨rfl, hx⟩
set_option maxRecDepth 20000 in
set_option maxHeartbeats 4000000 in
theorem kind_106 (p : Pt) : KindP p 106 := by
  obtain ⟨f, r, o, s, wt⟩ := p
  by_cases ho : o = 0
  · subst ho
    have hz : kindF ⟨f, r, 0, s, wt⟩ 106 = 6 := by simp [kindF, digB, opeB, motB, findB, plainB]
    intro w
    rw [hz]
    have hx := Ext.alloc w (.cells #[.int .i64 f, .int .i64 r, .int .i64 0, .int .i64 s, .int .i64 wt] 25)
    have HO := Lib.hid (operator_ok 106)
    rw [show opeB 106 = false from rfl] at HO
    clear hz
    unfold ptV
    simp only
    go_enter Try.func16, Try.ntmps16
    go_wp2_with (go_at_call 20; refine (HO.out _).mono ?_; rintro e w' ⟨rfl, rfl⟩)
    go_ret
    exact ⟨rfl, hx⟩
  · have hob : (o == 0) = false := by simpa using ho
    have hz : kindF ⟨f, r, o, s, wt⟩ 106 = 0 := by simp [kindF, digB, opeB, motB, findB, plainB, ho]
    intro w
    rw [hz]
    have hx := Ext.alloc w (.cells #[.int .i64 f, .int .i64 r, .int .i64 o, .int .i64 s, .int .i64 wt] 25)
    have HO := Lib.hid (operator_ok 106)
    rw [show opeB 106 = false from rfl] at HO
    clear hz
    unfold ptV
    simp only
    go_enter Try.func16, Try.ntmps16
    go_wp2_with (go_at_call 20; refine (HO.out _).mono ?_; rintro e w' ⟨rfl, rfl⟩)
    go_ret
    exact ⟨rfl, hx⟩
set_option maxRecDepth 20000 in
set_option maxHeartbeats 4000000 in
theorem kind_107 (p : Pt) : KindP p 107 := by
  obtain ⟨f, r, o, s, wt⟩ := p
  by_cases ho : o = 0
  · subst ho
    have hz : kindF ⟨f, r, 0, s, wt⟩ 107 = 6 := by simp [kindF, digB, opeB, motB, findB, plainB]
    intro w
    rw [hz]
    have hx := Ext.alloc w (.cells #[.int .i64 f, .int .i64 r, .int .i64 0, .int .i64 s, .int .i64 wt] 25)
    have HO := Lib.hid (operator_ok 107)
    rw [show opeB 107 = false from rfl] at HO
    clear hz
    unfold ptV
    simp only
    go_enter Try.func16, Try.ntmps16
    go_wp2_with (go_at_call 20; refine (HO.out _).mono ?_; rintro e w' ⟨rfl, rfl⟩)
    go_ret
    exact ⟨rfl, hx⟩
  · have hob : (o == 0) = false := by simpa using ho
    have hz : kindF ⟨f, r, o, s, wt⟩ 107 = 0 := by simp [kindF, digB, opeB, motB, findB, plainB, ho]
    intro w
    rw [hz]
    have hx := Ext.alloc w (.cells #[.int .i64 f, .int .i64 r, .int .i64 o, .int .i64 s, .int .i64 wt] 25)
    have HO := Lib.hid (operator_ok 107)
    rw [show opeB 107 = false from rfl] at HO
    clear hz
    unfold ptV
    simp only
    go_enter Try.func16, Try.ntmps16
    go_wp2_with (go_at_call 20; refine (HO.out _).mono ?_; rintro e w' ⟨rfl, rfl⟩)
    go_ret
    exact ⟨rfl, hx⟩
set_option maxRecDepth 20000 in
set_option maxHeartbeats 4000000 in
theorem kind_71 (p : Pt) : KindP p 71 := by
  obtain ⟨f, r, o, s, wt⟩ := p
  by_cases ho : o = 0
  · subst ho
    have hz : kindF ⟨f, r, 0, s, wt⟩ 71 = 6 := by simp [kindF, digB, opeB, motB, findB, plainB]
    intro w
    rw [hz]
    have hx := Ext.alloc w (.cells #[.int .i64 f, .int .i64 r, .int .i64 0, .int .i64 s, .int .i64 wt] 25)
    have HO := Lib.hid (operator_ok 71)
    rw [show opeB 71 = false from rfl] at HO
    clear hz
    unfold ptV
    simp only
    go_enter Try.func16, Try.ntmps16
    go_wp2_with (go_at_call 20; refine (HO.out _).mono ?_; rintro e w' ⟨rfl, rfl⟩)
    go_ret
    exact ⟨rfl, hx⟩
  · have hob : (o == 0) = false := by simpa using ho
    have hz : kindF ⟨f, r, o, s, wt⟩ 71 = 0 := by simp [kindF, digB, opeB, motB, findB, plainB, ho]
    intro w
    rw [hz]
    have hx := Ext.alloc w (.cells #[.int .i64 f, .int .i64 r, .int .i64 o, .int .i64 s, .int .i64 wt] 25)
    have HO := Lib.hid (operator_ok 71)
    rw [show opeB 71 = false from rfl] at HO
    clear hz
    unfold ptV
    simp only
    go_enter Try.func16, Try.ntmps16
    go_wp2_with (go_at_call 20; refine (HO.out _).mono ?_; rintro e w' ⟨rfl, rfl⟩)
    go_ret
    exact ⟨rfl, hx⟩
set_option maxRecDepth 20000 in
set_option maxHeartbeats 4000000 in
theorem kind_47 (p : Pt) : KindP p 47 := by
  obtain ⟨f, r, o, s, wt⟩ := p
  by_cases ho : o = 0
  · subst ho
    have hz : kindF ⟨f, r, 0, s, wt⟩ 47 = 6 := by simp [kindF, digB, opeB, motB, findB, plainB]
    intro w
    rw [hz]
    have hx := Ext.alloc w (.cells #[.int .i64 f, .int .i64 r, .int .i64 0, .int .i64 s, .int .i64 wt] 25)
    have HO := Lib.hid (operator_ok 47)
    rw [show opeB 47 = false from rfl] at HO
    clear hz
    unfold ptV
    simp only
    go_enter Try.func16, Try.ntmps16
    go_wp2_with (go_at_call 20; refine (HO.out _).mono ?_; rintro e w' ⟨rfl, rfl⟩)
    go_ret
    exact ⟨rfl, hx⟩
  · have hob : (o == 0) = false := by simpa using ho
    have hz : kindF ⟨f, r, o, s, wt⟩ 47 = 0 := by simp [kindF, digB, opeB, motB, findB, plainB, ho]
    intro w
    rw [hz]
    have hx := Ext.alloc w (.cells #[.int .i64 f, .int .i64 r, .int .i64 o, .int .i64 s, .int .i64 wt] 25)
    have HO := Lib.hid (operator_ok 47)
    rw [show opeB 47 = false from rfl] at HO
    clear hz
    unfold ptV
    simp only
    go_enter Try.func16, Try.ntmps16
    go_wp2_with (go_at_call 20; refine (HO.out _).mono ?_; rintro e w' ⟨rfl, rfl⟩)
    go_ret
    exact ⟨rfl, hx⟩
set_option maxRecDepth 20000 in
set_option maxHeartbeats 4000000 in
theorem kind_63 (p : Pt) : KindP p 63 := by
  obtain ⟨f, r, o, s, wt⟩ := p
  by_cases ho : o = 0
  · subst ho
    have hz : kindF ⟨f, r, 0, s, wt⟩ 63 = 6 := by simp [kindF, digB, opeB, motB, findB, plainB]
    intro w
    rw [hz]
    have hx := Ext.alloc w (.cells #[.int .i64 f, .int .i64 r, .int .i64 0, .int .i64 s, .int .i64 wt] 25)
    have HO := Lib.hid (operator_ok 63)
    rw [show opeB 63 = false from rfl] at HO
    clear hz
    unfold ptV
    simp only
    go_enter Try.func16, Try.ntmps16
    go_wp2_with (go_at_call 20; refine (HO.out _).mono ?_; rintro e w' ⟨rfl, rfl⟩)
    go_ret
    exact ⟨rfl, hx⟩
  · have hob : (o == 0) = false := by simpa using ho
    have hz : kindF ⟨f, r, o, s, wt⟩ 63 = 0 := by simp [kindF, digB, opeB, motB, findB, plainB, ho]
    intro w
    rw [hz]
    have hx := Ext.alloc w (.cells #[.int .i64 f, .int .i64 r, .int .i64 o, .int .i64 s, .int .i64 wt] 25)
    have HO := Lib.hid (operator_ok 63)
    rw [show opeB 63 = false from rfl] at HO
    clear hz
    unfold ptV
    simp only
    go_enter Try.func16, Try.ntmps16
    go_wp2_with (go_at_call 20; refine (HO.out _).mono ?_; rintro e w' ⟨rfl, rfl⟩)
    go_ret
    exact ⟨rfl, hx⟩
set_option maxRecDepth 20000 in
set_option maxHeartbeats 4000000 in
theorem kind_110 (p : Pt) : KindP p 110 := by
  obtain ⟨f, r, o, s, wt⟩ := p
  by_cases ho : o = 0
  · subst ho
    have hz : kindF ⟨f, r, 0, s, wt⟩ 110 = 6 := by simp [kindF, digB, opeB, motB, findB, plainB]
    intro w
    rw [hz]
    have hx := Ext.alloc w (.cells #[.int .i64 f, .int .i64 r, .int .i64 0, .int .i64 s, .int .i64 wt] 25)
    have HO := Lib.hid (operator_ok 110)
    rw [show opeB 110 = false from rfl] at HO
    clear hz
    unfold ptV
    simp only
    go_enter Try.func16, Try.ntmps16
    go_wp2_with (go_at_call 20; refine (HO.out _).mono ?_; rintro e w' ⟨rfl, rfl⟩)
    go_ret
    exact ⟨rfl, hx⟩
  · have hob : (o == 0) = false := by simpa using ho
    have hz : kindF ⟨f, r, o, s, wt⟩ 110 = 0 := by simp [kindF, digB, opeB, motB, findB, plainB, ho]
    intro w
    rw [hz]
    have hx := Ext.alloc w (.cells #[.int .i64 f, .int .i64 r, .int .i64 o, .int .i64 s, .int .i64 wt] 25)
    have HO := Lib.hid (operator_ok 110)
    rw [show opeB 110 = false from rfl] at HO
    clear hz
    unfold ptV
    simp only
    go_enter Try.func16, Try.ntmps16
    go_wp2_with (go_at_call 20; refine (HO.out _).mono ?_; rintro e w' ⟨rfl, rfl⟩)
    go_ret
    exact ⟨rfl, hx⟩
set_option maxRecDepth 20000 in
set_option maxHeartbeats 4000000 in
theorem kind_78 (p : Pt) : KindP p 78 := by
  obtain ⟨f, r, o, s, wt⟩ := p
  by_cases ho : o = 0
  · subst ho
    have hz : kindF ⟨f, r, 0, s, wt⟩ 78 = 6 := by simp [kindF, digB, opeB, motB, findB, plainB]
    intro w
    rw [hz]
    have hx := Ext.alloc w (.cells #[.int .i64 f, .int .i64 r, .int .i64 0, .int .i64 s, .int .i64 wt] 25)
    have HO := Lib.hid (operator_ok 78)
    rw [show opeB 78 = false from rfl] at HO
    clear hz
    unfold ptV
    simp only
    go_enter Try.func16, Try.ntmps16
    go_wp2_with (go_at_call 20; refine (HO.out _).mono ?_; rintro e w' ⟨rfl, rfl⟩)
    go_ret
    exact ⟨rfl, hx⟩
  · have hob : (o == 0) = false := by simpa using ho
    have hz : kindF ⟨f, r, o, s, wt⟩ 78 = 0 := by simp [kindF, digB, opeB, motB, findB, plainB, ho]
    intro w
    rw [hz]
    have hx := Ext.alloc w (.cells #[.int .i64 f, .int .i64 r, .int .i64 o, .int .i64 s, .int .i64 wt] 25)
    have HO := Lib.hid (operator_ok 78)
    rw [show opeB 78 = false from rfl] at HO
    clear hz
    unfold ptV
    simp only
    go_enter Try.func16, Try.ntmps16
    go_wp2_with (go_at_call 20; refine (HO.out _).mono ?_; rintro e w' ⟨rfl, rfl⟩)
    go_ret
    exact ⟨rfl, hx⟩
set_option maxRecDepth 20000 in
set_option maxHeartbeats 4000000 in
theorem kind_82 (p : Pt) : KindP p 82 := by
  obtain ⟨f, r, o, s, wt⟩ := p
  by_cases ho : o = 0
  · subst ho
    have hz : kindF ⟨f, r, 0, s, wt⟩ 82 = 6 := by simp [kindF, digB, opeB, motB, findB, plainB]
    intro w
    rw [hz]
    have hx := Ext.alloc w (.cells #[.int .i64 f, .int .i64 r, .int .i64 0, .int .i64 s, .int .i64 wt] 25)
    have HO := Lib.hid (operator_ok 82)
    rw [show opeB 82 = false from rfl] at HO
    clear hz
    unfold ptV
    simp only
    go_enter Try.func16, Try.ntmps16
    go_wp2_with (go_at_call 20; refine (HO.out _).mono ?_; rintro e w' ⟨rfl, rfl⟩)
    go_ret
    exact ⟨rfl, hx⟩
  · have hob : (o == 0) = false := by simpa using ho
    have hz : kindF ⟨f, r, o, s, wt⟩ 82 = 0 := by simp [kindF, digB, opeB, motB, findB, plainB, ho]
    intro w
    rw [hz]
    have hx := Ext.alloc w (.cells #[.int .i64 f, .int .i64 r, .int .i64 o, .int .i64 s, .int .i64 wt] 25)
    have HO := Lib.hid (operator_ok 82)
    rw [show opeB 82 = false from rfl] at HO
    clear hz
    unfold ptV
    simp only
    go_enter Try.func16, Try.ntmps16
    go_wp2_with (go_at_call 20; refine (HO.out _).mono ?_; rintro e w' ⟨rfl, rfl⟩)
    go_ret
    exact ⟨rfl, hx⟩
set_option maxRecDepth 20000 in
set_option maxHeartbeats 4000000 in
theorem kind_114 (p : Pt) : KindP p 114 := by
  obtain ⟨f, r, o, s, wt⟩ := p
  by_cases ho : o = 0
  · subst ho
    have hz : kindF ⟨f, r, 0, s, wt⟩ 114 = 7 := by simp [kindF, digB, opeB, motB, findB, plainB]
    intro w
    rw [hz]
    have hx := Ext.alloc w (.cells #[.int .i64 f, .int .i64 r, .int .i64 0, .int .i64 s, .int .i64 wt] 25)
    have HO := Lib.hid (operator_ok 114)
    rw [show opeB 114 = false from rfl] at HO
    clear hz
    unfold ptV
    simp only
    go_enter Try.func16, Try.ntmps16
    go_wp2_with (go_at_call 20; refine (HO.out _).mono ?_; rintro e w' ⟨rfl, rfl⟩)
    go_ret
    exact ⟨rfl, hx⟩
  · have hob : (o == 0) = false := by simpa using ho
    have hz : kindF ⟨f, r, o, s, wt⟩ 114 = 0 := by simp [kindF, digB, opeB, motB, findB, plainB, ho]
    intro w
    rw [hz]
    have hx := Ext.alloc w (.cells #[.int .i64 f, .int .i64 r, .int .i64 o, .int .i64 s, .int .i64 wt] 25)
    have HO := Lib.hid (operator_ok 114)
    rw [show opeB 114 = false from rfl] at HO
    clear hz
    unfold ptV
    simp only
    go_enter Try.func16, Try.ntmps16
    go_wp2_with (go_at_call 20; refine (HO.out _).mono ?_; rintro e w' ⟨rfl, rfl⟩)
    go_ret
    exact ⟨rfl, hx⟩
set_option maxRecDepth 20000 in
set_option maxHeartbeats 4000000 in
theorem kind_34 (p : Pt) : KindP p 34 := by
  obtain ⟨f, r, o, s, wt⟩ := p
  by_cases ho : o = 0
  · subst ho
    by_cases hr : r = 0
    · subst hr
      have hz : kindF ⟨f, 0, 0, s, wt⟩ 34 = 2 := by simp [kindF, digB, opeB, motB, findB, plainB]
      intro w
      rw [hz]
      have hx := Ext.alloc w (.cells #[.int .i64 f, .int .i64 0, .int .i64 0, .int .i64 s, .int .i64 wt] 25)
      have HO := Lib.hid (operator_ok 34)
      rw [show opeB 34 = false from rfl] at HO
      clear hz
      unfold ptV
      simp only
      go_enter Try.func16, Try.ntmps16
      go_wp2_with (go_at_call 20; refine (HO.out _).mono ?_; rintro e w' ⟨rfl, rfl⟩)
      go_ret
      exact ⟨rfl, hx⟩
    · have hrb : (r == 0) = false := by simpa using hr
      have hz : kindF ⟨f, r, 0, s, wt⟩ 34 = 0 := by simp [kindF, digB, opeB, motB, findB, plainB, hr]
      intro w
      rw [hz]
      have hx := Ext.alloc w (.cells #[.int .i64 f, .int .i64 r, .int .i64 0, .int .i64 s, .int .i64 wt] 25)
      have HO := Lib.hid (operator_ok 34)
      rw [show opeB 34 = false from rfl] at HO
      clear hz
      unfold ptV
      simp only
      go_enter Try.func16, Try.ntmps16
      go_wp2_with (go_at_call 20; refine (HO.out _).mono ?_; rintro e w' ⟨rfl, rfl⟩)
      go_ret
      exact ⟨rfl, hx⟩
  · have hob : (o == 0) = false := by simpa using ho
    have hz : kindF ⟨f, r, o, s, wt⟩ 34 = 0 := by simp [kindF, digB, opeB, motB, findB, plainB, ho]
    intro w
    rw [hz]
    have hx := Ext.alloc w (.cells #[.int .i64 f, .int .i64 r, .int .i64 o, .int .i64 s, .int .i64 wt] 25)
    have HO := Lib.hid (operator_ok 34)
    rw [show opeB 34 = false from rfl] at HO
    clear hz
    unfold ptV
    simp only
    go_enter Try.func16, Try.ntmps16
    go_wp2_with (go_at_call 20; refine (HO.out _).mono ?_; rintro e w' ⟨rfl, rfl⟩)
    go_ret
    exact ⟨rfl, hx⟩
set_option maxRecDepth 20000 in
set_option maxHeartbeats 4000000 in
theorem kind_48 (p : Pt) : KindP p 48 := by
  obtain ⟨f, r, o, s, wt⟩ := p
  by_cases ho : o = 0
  · subst ho
    by_cases hf : 0 < f
    · have hz : kindF ⟨f, r, 0, s, wt⟩ 48 = 1 := by simp [kindF, digB, cntF, hf]
      intro w
      rw [hz]
      have hx := Ext.alloc w (.cells #[.int .i64 f, .int .i64 r, .int .i64 0, .int .i64 s, .int .i64 wt] 25)
      have HO := Lib.hid (operator_ok 48)
      rw [show opeB 48 = false from rfl] at HO
      clear hz
      unfold ptV
      simp only
      go_enter Try.func16, Try.ntmps16
      go_wp2_with (go_at_call 20; refine (HO.out _).mono ?_; rintro e w' ⟨rfl, rfl⟩)
      go_ret
      exact ⟨rfl, hx⟩
    · have hz : kindF ⟨f, r, 0, s, wt⟩ 48 = 5 := by simp [kindF, digB, cntF, opeB, motB, hf]
      intro w
      rw [hz]
      have hx := Ext.alloc w (.cells #[.int .i64 f, .int .i64 r, .int .i64 0, .int .i64 s, .int .i64 wt] 25)
      have HO := Lib.hid (operator_ok 48)
      rw [show opeB 48 = false from rfl] at HO
      clear hz
      unfold ptV
      simp only
      go_enter Try.func16, Try.ntmps16
      go_wp2_with (go_at_call 20; refine (HO.out _).mono ?_; rintro e w' ⟨rfl, rfl⟩)
      go_ret
      exact ⟨rfl, hx⟩
  · have hob : (o == 0) = false := by simpa using ho
    by_cases hf : 0 < s
    · have hz : kindF ⟨f, r, o, s, wt⟩ 48 = 1 := by simp [kindF, digB, cntF, hf, ho]
      intro w
      rw [hz]
      have hx := Ext.alloc w (.cells #[.int .i64 f, .int .i64 r, .int .i64 o, .int .i64 s, .int .i64 wt] 25)
      have HO := Lib.hid (operator_ok 48)
      rw [show opeB 48 = false from rfl] at HO
      clear hz
      unfold ptV
      simp only
      go_enter Try.func16, Try.ntmps16
      go_wp2_with (go_at_call 20; refine (HO.out _).mono ?_; rintro e w' ⟨rfl, rfl⟩)
      go_ret
      exact ⟨rfl, hx⟩
    · have hz : kindF ⟨f, r, o, s, wt⟩ 48 = 5 := by simp [kindF, digB, cntF, opeB, motB, hf, ho]
      intro w
      rw [hz]
      have hx := Ext.alloc w (.cells #[.int .i64 f, .int .i64 r, .int .i64 o, .int .i64 s, .int .i64 wt] 25)
      have HO := Lib.hid (operator_ok 48)
      rw [show opeB 48 = false from rfl] at HO
      clear hz
      unfold ptV
      simp only
      go_enter Try.func16, Try.ntmps16
      go_wp2_with (go_at_call 20; refine (HO.out _).mono ?_; rintro e w' ⟨rfl, rfl⟩)
      go_ret
      exact ⟨rfl, hx⟩
set_option maxRecDepth 20000 in
set_option maxHeartbeats 4000000 in
theorem kind_dig (p : Pt) (k : Int) (h1 : 49 ≤ k) (h2 : k ≤ 57) : KindP p k := by
  obtain ⟨f, r, o, s, wt⟩ := p
  have hop : opeB k = false := by simp [opeB]; omega
  by_cases ho : o = 0
  · subst ho
    have hz : kindF ⟨f, r, 0, s, wt⟩ k = 1 := by simp [kindF, digB, h1, h2]
    intro w
    rw [hz]
    have hx := Ext.alloc w (.cells #[.int .i64 f, .int .i64 r, .int .i64 0, .int .i64 s, .int .i64 wt] 25)
    have HO := Lib.hid (operator_ok k)
    rw [show opeB k = false from hop] at HO
    clear hz
    unfold ptV
    simp only
    go_enter Try.func16, Try.ntmps16
    go_wp2_with (go_at_call 20; refine (HO.out _).mono ?_; rintro e w' ⟨rfl, rfl⟩)
    go_ret
    exact ⟨rfl, hx⟩
  · have hob : (o == 0) = false := by simpa using ho
    have hz : kindF ⟨f, r, o, s, wt⟩ k = 1 := by simp [kindF, digB, h1, h2]
    intro w
    rw [hz]
    have hx := Ext.alloc w (.cells #[.int .i64 f, .int .i64 r, .int .i64 o, .int .i64 s, .int .i64 wt] 25)
    have HO := Lib.hid (operator_ok k)
    rw [show opeB k = false from hop] at HO
    clear hz
    unfold ptV
    simp only
    go_enter Try.func16, Try.ntmps16
    go_wp2_with (go_at_call 20; refine (HO.out _).mono ?_; rintro e w' ⟨rfl, rfl⟩)
    go_ret
    exact ⟨rfl, hx⟩
set_option maxRecDepth 20000 in
set_option maxHeartbeats 8000000 in
theorem kind_else (p : Pt) (k : Int) (n100 : k ≠ 100) (n99 : k ≠ 99) (n121 : k ≠ 121) (n104 : k ≠ 104) (n108 : k ≠ 108) (n94 : k ≠ 94) (n36 : k ≠ 36) (n124 : k ≠ 124) (n119 : k ≠ 119) (n87 : k ≠ 87) (n98 : k ≠ 98) (n66 : k ≠ 66) (n101 : k ≠ 101) (n69 : k ≠ 69) (n37 : k ≠ 37) (n59 : k ≠ 59) (n44 : k ≠ 44) (n102 : k ≠ 102) (n70 : k ≠ 70) (n116 : k ≠ 116) (n84 : k ≠ 84) (n105 : k ≠ 105) (n97 : k ≠ 97) (n73 : k ≠ 73) (n65 : k ≠ 65) (n115 : k ≠ 115) (n83 : k ≠ 83) (n67 : k ≠ 67) (n68 : k ≠ 68) (n120 : k ≠ 120) (n88 : k ≠ 88) (n112 : k ≠ 112) (n80 : k ≠ 80) (n89 : k ≠ 89) (n126 : k ≠ 126) (n117 : k ≠ 117) (n85 : k ≠ 85) (n46 : k ≠ 46) (n106 : k ≠ 106) (n107 : k ≠ 107) (n71 : k ≠ 71) (n47 : k ≠ 47) (n63 : k ≠ 63) (n110 : k ≠ 110) (n78 : k ≠ 78) (n82 : k ≠ 82) (n114 : k ≠ 114) (n34 : k ≠ 34) (n48 : k ≠ 48) (hd : ¬ (49 ≤ k ∧ k ≤ 57)) : KindP p k := by
  obtain ⟨f, r, o, s, wt⟩ := p
  have b100 : (k == 100) = false := by simpa using n100
  have b99 : (k == 99) = false := by simpa using n99
  have b121 : (k == 121) = false := by simpa using n121
  have b104 : (k == 104) = false := by simpa using n104
  have b108 : (k == 108) = false := by simpa using n108
  have b94 : (k == 94) = false := by simpa using n94
  have b36 : (k == 36) = false := by simpa using n36
  have b124 : (k == 124) = false := by simpa using n124
  have b119 : (k == 119) = false := by simpa using n119
  have b87 : (k == 87) = false := by simpa using n87
  have b98 : (k == 98) = false := by simpa using n98
  have b66 : (k == 66) = false := by simpa using n66
  have b101 : (k == 101) = false := by simpa using n101
  have b69 : (k == 69) = false := by simpa using n69
  have b37 : (k == 37) = false := by simpa using n37
  have b59 : (k == 59) = false := by simpa using n59
  have b44 : (k == 44) = false := by simpa using n44
  have b102 : (k == 102) = false := by simpa using n102
  have b70 : (k == 70) = false := by simpa using n70
  have b116 : (k == 116) = false := by simpa using n116
  have b84 : (k == 84) = false := by simpa using n84
  have b105 : (k == 105) = false := by simpa using n105
  have b97 : (k == 97) = false := by simpa using n97
  have b73 : (k == 73) = false := by simpa using n73
  have b65 : (k == 65) = false := by simpa using n65
  have b115 : (k == 115) = false := by simpa using n115
  have b83 : (k == 83) = false := by simpa using n83
  have b67 : (k == 67) = false := by simpa using n67
  have b68 : (k == 68) = false := by simpa using n68
  have b120 : (k == 120) = false := by simpa using n120
  have b88 : (k == 88) = false := by simpa using n88
  have b112 : (k == 112) = false := by simpa using n112
  have b80 : (k == 80) = false := by simpa using n80
  have b89 : (k == 89) = false := by simpa using n89
  have b126 : (k == 126) = false := by simpa using n126
  have b117 : (k == 117) = false := by simpa using n117
  have b85 : (k == 85) = false := by simpa using n85
  have b46 : (k == 46) = false := by simpa using n46
  have b106 : (k == 106) = false := by simpa using n106
  have b107 : (k == 107) = false := by simpa using n107
  have b71 : (k == 71) = false := by simpa using n71
  have b47 : (k == 47) = false := by simpa using n47
  have b63 : (k == 63) = false := by simpa using n63
  have b110 : (k == 110) = false := by simpa using n110
  have b78 : (k == 78) = false := by simpa using n78
  have b82 : (k == 82) = false := by simpa using n82
  have b114 : (k == 114) = false := by simpa using n114
  have b34 : (k == 34) = false := by simpa using n34
  have b48 : (k == 48) = false := by simpa using n48
  have hop : opeB k = false := by unfold opeB; rw [b100, b99, b121]; rfl
  have hmo : motB k = false := by unfold motB; rw [b104, b108, b48, b94, b36, b124, b119, b87, b98, b66, b101, b69, b37, b59, b44]; rfl
  have hfi : findB k = false := by unfold findB; rw [b102, b70, b116, b84]; rfl
  have hpl : plainB k = false := by unfold plainB; rw [b73, b65, b115, b83, b67, b68, b120, b88, b112, b80, b89, b126, b117, b85, b46, b106, b107, b71, b47, b63, b110, b78, b82]; rfl
  have hdi : ∀ p, digB p k = false := by intro p; unfold digB; rw [b48]; simp; omega
  have hz : kindF ⟨f, r, o, s, wt⟩ k = 0 := by unfold kindF; simp [hop, hmo, hfi, hpl, hdi, n105, n97, n34, n114]
  clear n100 n99 n121 n104 n108 n94 n36 n124 n119 n87 n98 n66 n101 n69 n37 n59 n44 n102 n70 n116 n84 n105 n97 n73 n65 n115 n83 n67 n68 n120 n88 n112 n80 n89 n126 n117 n85 n46 n106 n107 n71 n47 n63 n110 n78 n82 n114 n34 n48 hmo hfi hpl hdi
  by_cases h49 : 49 ≤ k
  · have h57 : ¬ k ≤ 57 := fun h => hd ⟨h49, h⟩
    clear hd
    by_cases ho : o = 0
    · subst ho
      intro w
      rw [hz]
      have hx := Ext.alloc w (.cells #[.int .i64 f, .int .i64 r, .int .i64 0, .int .i64 s, .int .i64 wt] 25)
      have HO := Lib.hid (operator_ok k)
      rw [show opeB k = false from hop] at HO
      clear hz
      unfold ptV
      simp only
      go_enter Try.func16, Try.ntmps16
      go_wp2_with (go_at_call 20; refine (HO.out _).mono ?_; rintro e w' ⟨rfl, rfl⟩)
      go_ret
      exact ⟨rfl, hx⟩
    · have hob : (o == 0) = false := by simpa using ho
      intro w
      rw [hz]
      have hx := Ext.alloc w (.cells #[.int .i64 f, .int .i64 r, .int .i64 o, .int .i64 s, .int .i64 wt] 25)
      have HO := Lib.hid (operator_ok k)
      rw [show opeB k = false from hop] at HO
      clear hz
      unfold ptV
      simp only
      go_enter Try.func16, Try.ntmps16
      go_wp2_with (go_at_call 20; refine (HO.out _).mono ?_; rintro e w' ⟨rfl, rfl⟩)
      go_ret
      exact ⟨rfl, hx⟩
  · clear hd
    by_cases ho : o = 0
    · subst ho
      intro w
      rw [hz]
      have hx := Ext.alloc w (.cells #[.int .i64 f, .int .i64 r, .int .i64 0, .int .i64 s, .int .i64 wt] 25)
      have HO := Lib.hid (operator_ok k)
      rw [show opeB k = false from hop] at HO
      clear hz
      unfold ptV
      simp only
      go_enter Try.func16, Try.ntmps16
      go_wp2_with (go_at_call 20; refine (HO.out _).mono ?_; rintro e w' ⟨rfl, rfl⟩)
      go_ret
      exact ⟨rfl, hx⟩
    · have hob : (o == 0) = false := by simpa using ho
      intro w
      rw [hz]
      have hx := Ext.alloc w (.cells #[.int .i64 f, .int .i64 r, .int .i64 o, .int .i64 s, .int .i64 wt] 25)
      have HO := Lib.hid (operator_ok k)
      rw [show opeB k = false from hop] at HO
      clear hz
      unfold ptV
      simp only
      go_enter Try.func16, Try.ntmps16
      go_wp2_with (go_at_call 20; refine (HO.out _).mono ?_; rintro e w' ⟨rfl, rfl⟩)
      go_ret
      exact ⟨rfl, hx⟩
theorem kind_ok (p : Pt) (k : Int) : KindP p k := by
  by_cases n100 : k = 100
  · rw [n100]; exact kind_100 p
  by_cases n99 : k = 99
  · rw [n99]; exact kind_99 p
  by_cases n121 : k = 121
  · rw [n121]; exact kind_121 p
  by_cases n104 : k = 104
  · rw [n104]; exact kind_104 p
  by_cases n108 : k = 108
  · rw [n108]; exact kind_108 p
  by_cases n94 : k = 94
  · rw [n94]; exact kind_94 p
  by_cases n36 : k = 36
  · rw [n36]; exact kind_36 p
  by_cases n124 : k = 124
  · rw [n124]; exact kind_124 p
  by_cases n119 : k = 119
  · rw [n119]; exact kind_119 p
  by_cases n87 : k = 87
  · rw [n87]; exact kind_87 p
  by_cases n98 : k = 98
  · rw [n98]; exact kind_98 p
  by_cases n66 : k = 66
  · rw [n66]; exact kind_66 p
  by_cases n101 : k = 101
  · rw [n101]; exact kind_101 p
  by_cases n69 : k = 69
  · rw [n69]; exact kind_69 p
  by_cases n37 : k = 37
  · rw [n37]; exact kind_37 p
  by_cases n59 : k = 59
  · rw [n59]; exact kind_59 p
  by_cases n44 : k = 44
  · rw [n44]; exact kind_44 p
  by_cases n102 : k = 102
  · rw [n102]; exact kind_102 p
  by_cases n70 : k = 70
  · rw [n70]; exact kind_70 p
  by_cases n116 : k = 116
  · rw [n116]; exact kind_116 p
  by_cases n84 : k = 84
  · rw [n84]; exact kind_84 p
  by_cases n105 : k = 105
  · rw [n105]; exact kind_105 p
  by_cases n97 : k = 97
  · rw [n97]; exact kind_97 p
  by_cases n73 : k = 73
  · rw [n73]; exact kind_73 p
  by_cases n65 : k = 65
  · rw [n65]; exact kind_65 p
  by_cases n115 : k = 115
  · rw [n115]; exact kind_115 p
  by_cases n83 : k = 83
  · rw [n83]; exact kind_83 p
  by_cases n67 : k = 67
  · rw [n67]; exact kind_67 p
  by_cases n68 : k = 68
  · rw [n68]; exact kind_68 p
  by_cases n120 : k = 120
  · rw [n120]; exact kind_120 p
  by_cases n88 : k = 88
  · rw [n88]; exact kind_88 p
  by_cases n112 : k = 112
  · rw [n112]; exact kind_112 p
  by_cases n80 : k = 80
  · rw [n80]; exact kind_80 p
  by_cases n89 : k = 89
  · rw [n89]; exact kind_89 p
  by_cases n126 : k = 126
  · rw [n126]; exact kind_126 p
  by_cases n117 : k = 117
  · rw [n117]; exact kind_117 p
  by_cases n85 : k = 85
  · rw [n85]; exact kind_85 p
  by_cases n46 : k = 46
  · rw [n46]; exact kind_46 p
  by_cases n106 : k = 106
  · rw [n106]; exact kind_106 p
  by_cases n107 : k = 107
  · rw [n107]; exact kind_107 p
  by_cases n71 : k = 71
  · rw [n71]; exact kind_71 p
  by_cases n47 : k = 47
  · rw [n47]; exact kind_47 p
  by_cases n63 : k = 63
  · rw [n63]; exact kind_63 p
  by_cases n110 : k = 110
  · rw [n110]; exact kind_110 p
  by_cases n78 : k = 78
  · rw [n78]; exact kind_78 p
  by_cases n82 : k = 82
  · rw [n82]; exact kind_82 p
  by_cases n114 : k = 114
  · rw [n114]; exact kind_114 p
  by_cases n34 : k = 34
  · rw [n34]; exact kind_34 p
  by_cases n48 : k = 48
  · rw [n48]; exact kind_48 p
  by_cases hd : 49 ≤ k ∧ k ≤ 57
  · exact kind_dig p k hd.1 hd.2
  · exact kind_else p k n100 n99 n121 n104 n108 n94 n36 n124 n119 n87 n98 n66 n101 n69 n37 n59 n44 n102 n70 n116 n84 n105 n97 n73 n65 n115 n83 n67 n68 n120 n88 n112 n80 n89 n126 n117 n85 n46 n106 n107 n71 n47 n63 n110 n78 n82 n114 n34 n48 hd
end Go.Proofs.Ytpgffhmcangllaa
