/-
  The walks of keys.waits and keys.Write.
-/
import Derived.Test.YtpgffhmcangllaaKeyN
import Derived.Test.YtpgffhmcangllaaKeyE
import Derived.Deep.DeepCutAuto
import Derived.Deep.CutRange
import Derived.Deep.CutBlock
import Derived.Deep.Light
namespace Go.Proofs.Ytpgffhmcangllaa
open Go.RowKit
set_option linter.unusedVariables false
set_option linter.unusedSimpArgs false

set_option maxRecDepth 20000 in
set_option maxHeartbeats 4000000 in
theorem waits_ok {f r o v a : Int} {b : Bool} (w : World) (hb : waitB ⟨f, r, o, v, a⟩ = b) :
    Calls Try.prog 21 #[.agg #[.int .i64 f, .int .i64 r, .int .i64 o, .int .i64 v, .int .i64 a]] w fun e w' => e = .returned (.bool b) ∧ Ext w w' := by
  by_cases h1 : v = 102 ∨ v = 70 ∨ v = 116 ∨ v = 84 ∨ v = 114
  · obtain rfl : true = b := by rw [← hb]; rcases h1 with rfl | rfl | rfl | rfl | rfl <;> rfl
    clear hb
    rcases h1 with rfl | rfl | rfl | rfl | rfl
    all_goals
      go_enter Try.func21, Try.ntmps21
      go_wp2_with fail
      go_ret
      exact ⟨rfl, Ext.alloc _ _⟩
  · by_cases h2 : v = 105 ∨ v = 97
    · obtain rfl : (o != 0) = b := by rw [← hb]; rcases h2 with rfl | rfl <;> rfl
      clear hb h1
      rcases h2 with rfl | rfl
      all_goals
        go_enter Try.func21, Try.ntmps21
        go_wp2_with fail
        go_ret
        exact ⟨rfl, Ext.alloc _ _⟩
    · obtain rfl : false = b := by
        rw [← hb]
        unfold waitB findB
        rw [if_neg (by simp; omega), if_neg (by simp; omega)]
      clear hb
      have e1 : (v == 102) = false := by simp; omega
      have e2 : (v == 70) = false := by simp; omega
      have e3 : (v == 116) = false := by simp; omega
      have e4 : (v == 84) = false := by simp; omega
      have e5 : (v == 114) = false := by simp; omega
      have e6 : (v == 105) = false := by simp; omega
      have e7 : (v == 97) = false := by simp; omega
      clear h1 h2
      go_enter Try.func21, Try.ntmps21
      go_wp2_with fail
      go_ret
      exact ⟨rfl, Ext.alloc _ _⟩

/-- A row of new numbers that a literal lays. -/
theorem lit_ints {w : World} {t : Nat} (l : List Int) (hl : l.length ≤ 100) : Ints (w.alloc (.cells (l.map (Value.int .i64)).toArray t)) (some ⟨w.heap.size, 0, none⟩) l.length l.length l :=
  Blk.ints (t := t) (Blk.new w t _) rfl (by unfold maxLen; omega)

/-- What Write does. -/
def Wrote (c : Cm) (w : World) (e : Ending) (w' : World) : Prop :=
  Ext w w' ∧ ((∃ k : Int, e = .returned (.tuple #[.slice none 0 0, .int .i64 k]) ∧ k ≠ 0 ∧ ¬ (0 ≤ c.count ∧ c.count ≤ 999 ∧ allA (keysF c) = ⟨[c], Pt.zero, 0⟩)) ∨
    (∃ O q d, e = .returned (.tuple #[.slice O q d, .int .i64 0]) ∧ OwnI w' w.heap.size O q d (keysF c) ∧ allA (keysF c) = ⟨[c], Pt.zero, 0⟩))

/-- The digits that are written when the loop's number is n. -/
def DigsAt (f : Int) (p : List Int) (n : Int) (l : List Int) (q : Nat) : Prop :=
  (n = 100 ∧ l = p ∧ q ≤ 2) ∨ (n = 10 ∧ l = p ++ (if 100 ≤ f then [48 + f / 100 % 10] else []) ∧ q ≤ 3) ∨ (n = 1 ∧ l = p ++ ((if 100 ≤ f then [48 + f / 100 % 10] else []) ++ (if 10 ≤ f then [48 + f / 10 % 10] else [])) ∧ q ≤ 4) ∨ (n = 0 ∧ l = p ++ digsF f)
theorem digsAt100 {f : Int} {p l : List Int} (h : 100 ≤ f) (hl : l = p) : l ++ [48 + f / 100 % 10] = p ++ (if 100 ≤ f then [48 + f / 100 % 10] else []) := by rw [if_pos h, hl]
theorem digsNo100 {f : Int} {p l : List Int} (h : ¬ 100 ≤ f) (hl : l = p) : l = p ++ (if 100 ≤ f then [48 + f / 100 % 10] else []) := by rw [if_neg h, hl]; simp
theorem digsAt10 {f : Int} {p l : List Int} (h : 10 ≤ f) (hl : l = p ++ (if 100 ≤ f then [48 + f / 100 % 10] else [])) : l ++ [48 + f / 10 % 10] = p ++ ((if 100 ≤ f then [48 + f / 100 % 10] else []) ++ (if 10 ≤ f then [48 + f / 10 % 10] else [])) := by rw [if_pos h, hl, List.append_assoc]
theorem digsNo10 {f : Int} {p l : List Int} (h : ¬ 10 ≤ f) (hl : l = p ++ (if 100 ≤ f then [48 + f / 100 % 10] else [])) : l = p ++ ((if 100 ≤ f then [48 + f / 100 % 10] else []) ++ (if 10 ≤ f then [48 + f / 10 % 10] else [])) := by rw [if_neg h, hl]; simp
theorem digsAt1 {f : Int} {p l : List Int} (h : 1 ≤ f) (hl : l = p ++ ((if 100 ≤ f then [48 + f / 100 % 10] else []) ++ (if 10 ≤ f then [48 + f / 10 % 10] else []))) : l ++ [48 + f % 10] = p ++ digsF f := by unfold digsF; rw [if_pos h, hl]; simp only [List.append_assoc]
theorem digsNo1 {f : Int} {p l : List Int} (h : ¬ 1 ≤ f) (hl : l = p ++ ((if 100 ≤ f then [48 + f / 100 % 10] else []) ++ (if 10 ≤ f then [48 + f / 10 % 10] else []))) : l = p ++ digsF f := by unfold digsF; rw [if_neg h, hl]; simp only [List.append_nil]

theorem ne5 {x0 x1 x2 x3 x4 y0 y1 y2 y3 y4 : Int} (h : ¬ (x0 = y0 ∧ x1 = y1 ∧ x2 = y2 ∧ x3 = y3 ∧ x4 = y4)) :
    x0 ≠ y0 ∨ (x0 = y0 ∧ x1 ≠ y1) ∨ (x0 = y0 ∧ x1 = y1 ∧ x2 ≠ y2) ∨ (x0 = y0 ∧ x1 = y1 ∧ x2 = y2 ∧ x3 ≠ y3) ∨ (x0 = y0 ∧ x1 = y1 ∧ x2 = y2 ∧ x3 = y3 ∧ x4 ≠ y4) := by omega

set_option maxRecDepth 100000 in
set_option maxHeartbeats 8000000 in
theorem write_any {f r o v a : Int} (w : World) : Calls Try.prog 12 #[.agg #[.int .i64 f, .int .i64 r, .int .i64 o, .int .i64 v, .int .i64 a]] w (Wrote ⟨f, r, o, v, a⟩ w) := by
  obtain ⟨i0, hi, hz0, hz1, hz2⟩ := info_parts info_int
  by_cases hcb : 0 ≤ f ∧ f ≤ 999
  · obtain ⟨hf0, hf9⟩ := hcb
    have hP := Blk.new w 32 #[.int .i64 f, .int .i64 r, .int .i64 o, .int .i64 v, .int .i64 a]
    have hX := Ext.alloc w (.cells #[.int .i64 f, .int .i64 r, .int .i64 o, .int .i64 v, .int .i64 a] 32)
    have HP := Lib.hid hP
    have HX := Lib.hid hX
    clear hP hX
    go_enter Try.func12, Try.ntmps12
    go_upto_if 19 with fail
    go_cut [4] (fun s4 wx => ∃ O q d, s4 = .slice O q d ∧ Hid (OwnI wx (w.heap.size + 1) O q d (regF ⟨f, r, o, v, a⟩)) ∧ q ≤ 2 ∧ Hid (Blk wx w.heap.size 32 #[.int .i64 f, .int .i64 r, .int .i64 o, .int .i64 v, .int .i64 a]) ∧ Hid (Ext w wx) ∧ w.heap.size + 1 ≤ wx.heap.size)
    case first =>
      by_cases h0 : r = 0
      · subst h0
        go_wp2_with fail
        go_meet
        exact ⟨none, 0, 0, rfl, Lib.hid (OwnI.nil _ _), by omega, HP, HX, by simp⟩
      · have h0b : (r != 0) = true := by simpa using h0
        have hl : Hid (Ints ((w.alloc (.cells #[.int .i64 f, .int .i64 r, .int .i64 o, .int .i64 v, .int .i64 a] 32)).alloc (.cells #[.int .i64 34, .int .i64 r] 3)) (some ⟨w.heap.size + 1, 0, none⟩) 2 2 [34, r]) := Lib.hid (by
          have h := lit_ints (w := w.alloc (.cells #[.int .i64 f, .int .i64 r, .int .i64 o, .int .i64 v, .int .i64 a] 32)) (t := 3) [34, r] (by simp)
          rwa [World.size_alloc] at h)
        go_wp2_with (at_builtin; refine wpList_app rfl (.tmp 20) (.tmp 23) 22 rfl w (w.heap.size + 1) 3 i0 (.int .i64 0) 1 8 Try.underlying22 hi hz0 hz1 hz2 rfl (by decide) none 0 0 [] rfl (Own.nil _ _ _ _) (some ⟨w.heap.size + 1, 0, none⟩) 2 2 [.int .i64 34, .int .i64 r] rfl hl.out ?_ ?_ ?_ (HX.out.to_alloc _) (Nat.le_succ _) ?_ ?_)
        · intro u hu
          simp at hu
          rcases hu with rfl | rfl <;> rfl
        · unfold maxLen; omega
        · omega
        · simp
        · intro A2 c2 w2 k1 k2 k3 k4
          have K1 : Hid (OwnI w2 (w.heap.size + 1) A2 2 c2 (regF ⟨f, r, o, v, a⟩)) := Lib.hid (by unfold regF; rw [if_neg h0]; exact k1)
          have K2 := Lib.hid ((HP.out.ext (Ext.alloc _ _)).grown k2 (by simp [Value.ownBlock]))
          have K4 := Lib.hid k4
          have hz := k4.hsize
          have hz2 : w.heap.size + 1 ≤ w2.heap.size := K2.out.lt
          clear k1 k2 k3 k4 hl h0b
          go_wp2_with fail
          go_meet
          exact ⟨A2, 2, c2, rfl, K1, by omega, K2, K4, hz2⟩
    case rest =>
      obtain ⟨O, q, d, rfl, Hown, hq, Hb, He, hle⟩ := hcut
      clear HP HX
      have pc := Hb.out.cell 0
      simp only [List.getElem?_toArray, List.getElem?_cons_zero] at pc
      go_wp2_with fail
      go_loopw [4, 5] (fun s4 s5 wx => ∃ (n : Int) (l : List Int) (O : Option Addr) (q d : Nat), s5 = .int .i64 n ∧ s4 = .slice O q d ∧ q ≤ 5 ∧ DigsAt f (regF ⟨f, r, o, v, a⟩) n l q ∧ Hid (OwnI wx (w.heap.size + 1) O q d l) ∧ Hid (Blk wx w.heap.size 32 #[.int .i64 f, .int .i64 r, .int .i64 o, .int .i64 v, .int .i64 a]) ∧ Hid (Ext w wx) ∧ w.heap.size + 1 ≤ wx.heap.size) (fun _ s5 _ => (intOf s5).toNat)
      case atStart => exact ⟨100, _, O, q, d, rfl, rfl, by omega, .inl ⟨rfl, rfl, hq⟩, Hown, Hb, He, hle⟩
      case round =>
        clear Hown hq Hb He hle pc
        obtain ⟨n, l, O, q, d, rfl, rfl, hq, hst, Hown, Hb, He, hle⟩ := hrel
        have pc := Hb.out.cell 0
        simp only [List.getElem?_toArray, List.getElem?_cons_zero] at pc
        rcases hst with ⟨rfl, hl, hq2⟩ | ⟨rfl, hl, hq2⟩ | ⟨rfl, hl, hq2⟩ | ⟨rfl, hl⟩
        · have HL := Lib.hid hl
          clear hl
          by_cases hn : 100 ≤ f
          · have hown := Hown.out
            have he := He.out
            go_wp2_with (at_builtin; refine wpList_push rfl (.tmp 33) (.tmp 40) 22 rfl w (w.heap.size + 1) 3 i0 (.int .i64 0) 1 8 Try.underlying22 hi hz0 hz1 hz2 rfl (by decide) O q d _ rfl hown #[.int .i64 (48 + f / 100 % 10)] rfl ?_ rfl ?_ ?_ he (Nat.le_succ _) hle ?_)
            · rfl
            · unfold maxLen; omega
            · omega
            · intro A2 c2 w2 k1 k2 k3 k4
              have K1 : Hid (OwnI w2 (w.heap.size + 1) A2 (q + 1) c2 (l ++ [48 + f / 100 % 10])) := Lib.hid (by simpa [OwnI] using k1)
              have K2 := Lib.hid (Hb.out.grown k2 (fun e => by have := (Own.blk Hown.out _ e.symm).1; omega))
              have K4 := Lib.hid k4
              have hz2 : w.heap.size + 1 ≤ w2.heap.size := K2.out.lt
              clear k1 k2 k3 k4 hown he pc Hown Hb He hle
              go_wp2_with fail
              go_roundw
              case rel => exact ⟨10, _, A2, q + 1, c2, rfl, rfl, by omega, .inr (.inl ⟨rfl, digsAt100 hn HL.out, by omega⟩), K1, K2, K4, hz2⟩
              case measure => simp [intOf]
          · go_wp2_with fail
            go_roundw
            case rel => exact ⟨10, _, O, q, d, rfl, rfl, by omega, .inr (.inl ⟨rfl, digsNo100 hn HL.out, by omega⟩), Hown, Hb, He, hle⟩
            case measure => simp [intOf]
        · have HL := Lib.hid hl
          clear hl
          by_cases hn : 10 ≤ f
          · have hown := Hown.out
            have he := He.out
            go_wp2_with (at_builtin; refine wpList_push rfl (.tmp 33) (.tmp 40) 22 rfl w (w.heap.size + 1) 3 i0 (.int .i64 0) 1 8 Try.underlying22 hi hz0 hz1 hz2 rfl (by decide) O q d _ rfl hown #[.int .i64 (48 + f / 10 % 10)] rfl ?_ rfl ?_ ?_ he (Nat.le_succ _) hle ?_)
            · rfl
            · unfold maxLen; omega
            · omega
            · intro A2 c2 w2 k1 k2 k3 k4
              have K1 : Hid (OwnI w2 (w.heap.size + 1) A2 (q + 1) c2 (l ++ [48 + f / 10 % 10])) := Lib.hid (by simpa [OwnI] using k1)
              have K2 := Lib.hid (Hb.out.grown k2 (fun e => by have := (Own.blk Hown.out _ e.symm).1; omega))
              have K4 := Lib.hid k4
              have hz2 : w.heap.size + 1 ≤ w2.heap.size := K2.out.lt
              clear k1 k2 k3 k4 hown he pc Hown Hb He hle
              go_wp2_with fail
              go_roundw
              case rel => exact ⟨1, _, A2, q + 1, c2, rfl, rfl, by omega, .inr (.inr (.inl ⟨rfl, digsAt10 hn HL.out, by omega⟩)), K1, K2, K4, hz2⟩
              case measure => simp [intOf]
          · go_wp2_with fail
            go_roundw
            case rel => exact ⟨1, _, O, q, d, rfl, rfl, by omega, .inr (.inr (.inl ⟨rfl, digsNo10 hn HL.out, by omega⟩)), Hown, Hb, He, hle⟩
            case measure => simp [intOf]
        · have HL := Lib.hid hl
          clear hl
          by_cases hn : 1 ≤ f
          · have hown := Hown.out
            have he := He.out
            go_wp2_with (at_builtin; refine wpList_push rfl (.tmp 33) (.tmp 40) 22 rfl w (w.heap.size + 1) 3 i0 (.int .i64 0) 1 8 Try.underlying22 hi hz0 hz1 hz2 rfl (by decide) O q d _ rfl hown #[.int .i64 (48 + f % 10)] rfl ?_ rfl ?_ ?_ he (Nat.le_succ _) hle ?_)
            · rfl
            · unfold maxLen; omega
            · omega
            · intro A2 c2 w2 k1 k2 k3 k4
              have K1 : Hid (OwnI w2 (w.heap.size + 1) A2 (q + 1) c2 (l ++ [48 + f % 10])) := Lib.hid (by simpa [OwnI] using k1)
              have K2 := Lib.hid (Hb.out.grown k2 (fun e => by have := (Own.blk Hown.out _ e.symm).1; omega))
              have K4 := Lib.hid k4
              have hz2 : w.heap.size + 1 ≤ w2.heap.size := K2.out.lt
              clear k1 k2 k3 k4 hown he pc Hown Hb He hle
              go_wp2_with fail
              go_roundw
              case rel => exact ⟨0, _, A2, q + 1, c2, rfl, rfl, by omega, .inr (.inr (.inr ⟨rfl, digsAt1 hn HL.out⟩)), K1, K2, K4, hz2⟩
              case measure => simp [intOf]
          · go_wp2_with fail
            go_roundw
            case rel => exact ⟨0, _, O, q, d, rfl, rfl, by omega, .inr (.inr (.inr ⟨rfl, digsNo1 hn HL.out⟩)), Hown, Hb, He, hle⟩
            case measure => simp [intOf]
        · have Hl : Hid (l = regF ⟨f, r, o, v, a⟩ ++ digsF f) := Lib.hid hl
          clear hl
          have pc2 := Hb.out.cell 2
          simp only [List.getElem?_toArray, List.getElem?_cons_zero, List.getElem?_cons_succ] at pc2
          go_upto_if 44 with fail
          go_cut [4] (fun s4 wx => ∃ (O : Option Addr) (q d : Nat), s4 = .slice O q d ∧ Hid (OwnI wx (w.heap.size + 1) O q d (l ++ opF ⟨f, r, o, v, a⟩)) ∧ q ≤ 6 ∧ Hid (Blk wx w.heap.size 32 #[.int .i64 f, .int .i64 r, .int .i64 o, .int .i64 v, .int .i64 a]) ∧ Hid (Ext w wx) ∧ w.heap.size + 1 ≤ wx.heap.size)
          case first =>
            by_cases h0 : o = 0
            · subst h0
              go_wp2_with fail
              go_meet
              exact ⟨O, q, d, rfl, Lib.hid (by unfold opF; rw [if_pos rfl, List.append_nil]; exact Hown.out), by omega, Hb, He, hle⟩
            · have h0b : (o != 0) = true := by simpa using h0
              have hown := Hown.out
              have he := He.out
              go_wp2_with (at_builtin; refine wpList_push rfl (.tmp 45) (.tmp 48) 22 rfl w (w.heap.size + 1) 3 i0 (.int .i64 0) 1 8 Try.underlying22 hi hz0 hz1 hz2 rfl (by decide) O q d _ rfl hown #[.int .i64 (o)] rfl ?_ rfl ?_ ?_ he (Nat.le_succ _) hle ?_)
              · rfl
              · unfold maxLen; omega
              · omega
              · intro A2 c2 w2 k1 k2 k3 k4
                have K1 : Hid (OwnI w2 (w.heap.size + 1) A2 (q + 1) c2 (l ++ opF ⟨f, r, o, v, a⟩)) := Lib.hid (by unfold opF; rw [if_neg h0]; simpa [OwnI] using k1)
                have K2 := Lib.hid (Hb.out.grown k2 (fun e => by have := (Own.blk Hown.out _ e.symm).1; omega))
                have K4 := Lib.hid k4
                have hz2 : w.heap.size + 1 ≤ w2.heap.size := K2.out.lt
                clear k1 k2 k3 k4 hown he pc pc2 Hown Hb He hle
                go_wp2_with fail
                go_meet
                exact ⟨A2, q + 1, c2, rfl, K1, by omega, K2, K4, hz2⟩
          case rest =>
            clear pc pc2 Hown hq Hb He hle
            obtain ⟨O, q, d, rfl, Hown, hq, Hb, He, hle⟩ := hcut
            obtain ⟨⟨pc0, pc1, pc2, pc3, pc4⟩, _⟩ := Hb.out.five
            have hown := Hown.out
            have he := He.out
            go_wp2_with (at_builtin; refine wpList_push rfl (.tmp 50) (.tmp 53) 22 rfl w (w.heap.size + 1) 3 i0 (.int .i64 0) 1 8 Try.underlying22 hi hz0 hz1 hz2 rfl (by decide) O q d _ rfl hown #[.int .i64 (v)] rfl ?_ rfl ?_ ?_ he (Nat.le_succ _) hle ?_)
            · rfl
            · unfold maxLen; omega
            · omega
            · intro A2 c2 w2 k1 k2 k3 k4
              have K1 : Hid (OwnI w2 (w.heap.size + 1) A2 (q + 1) c2 (l ++ opF ⟨f, r, o, v, a⟩ ++ [v])) := Lib.hid (by simpa [OwnI] using k1)
              have K2 := Lib.hid (Hb.out.grown k2 (fun e => by have := (Own.blk Hown.out _ e.symm).1; omega))
              have K4 := Lib.hid k4
              have hz2 : w.heap.size + 1 ≤ w2.heap.size := K2.out.lt
              clear k1 k2 k3 k4 hown he pc0 pc1 pc2 pc3 pc4 Hown Hb He hle
              obtain ⟨⟨pc0, pc1, pc2, pc3, pc4⟩, _⟩ := K2.out.five
              obtain ⟨bw, hbw⟩ : ∃ b, waitB ⟨f, r, o, v, a⟩ = b := ⟨_, rfl⟩
              have HW := Lib.hid (waits_ok w2 hbw)
              have Hbw := Lib.hid hbw
              clear hbw
              go_wp2_with fail
              refine (HW.out).mono ?_
              rintro e w3 ⟨rfl, he3⟩
              have Hown : Hid (OwnI w3 (w.heap.size + 1) A2 (q + 1) c2 (l ++ opF ⟨f, r, o, v, a⟩ ++ [v])) := Lib.hid (K1.out.ext he3)
              have Hb := Lib.hid (Blk.ext K2.out he3)
              have He := Lib.hid (K4.out.trans he3)
              have hle : w.heap.size + 1 ≤ w3.heap.size := Nat.le_trans hz2 he3.hsize
              clear pc0 pc1 pc2 pc3 pc4 HW K1 K2 K4 hz2 he3
              obtain ⟨⟨pc0, pc1, pc2, pc3, pc4⟩, _⟩ := Hb.out.five
              generalize A2 = O at *
              generalize c2 = d at *
              go_upto_if 56 with fail
              go_cut [4] (fun s4 wx => ∃ (O : Option Addr) (q d : Nat), s4 = .slice O q d ∧ Hid (OwnI wx (w.heap.size + 1) O q d (keysF ⟨f, r, o, v, a⟩)) ∧ Hid (Blk wx w.heap.size 32 #[.int .i64 f, .int .i64 r, .int .i64 o, .int .i64 v, .int .i64 a]) ∧ Hid (Ext w wx) ∧ w.heap.size + 1 ≤ wx.heap.size)
              case first =>
                cases bw with
                | false =>
                  go_wp2_with fail
                  go_meet
                  exact ⟨O, q + 1, d, rfl, Lib.hid (by unfold keysF argF; rw [Hbw.out, if_neg (by simp)]; have := Hown.out; rw [Hl.out] at this; simpa using this), Hb, He, hle⟩
                | true =>
                  have hown := Hown.out
                  have he := He.out
                  go_wp2_with (at_builtin; refine wpList_push rfl (.tmp 57) (.tmp 60) 22 rfl w (w.heap.size + 1) 3 i0 (.int .i64 0) 1 8 Try.underlying22 hi hz0 hz1 hz2 rfl (by decide) O (q + 1) d _ rfl hown #[.int .i64 (a)] rfl ?_ rfl ?_ ?_ he (Nat.le_succ _) hle ?_)
                  · rfl
                  · unfold maxLen; omega
                  · omega
                  · intro A2 c2 w2 k1 k2 k3 k4
                    have K1 : Hid (OwnI w2 (w.heap.size + 1) A2 (q + 1 + 1) c2 (keysF ⟨f, r, o, v, a⟩)) := Lib.hid (by unfold keysF argF; rw [Hbw.out, if_pos rfl]; rw [Hl.out] at k1; simpa [OwnI] using k1)
                    have K2 := Lib.hid (Hb.out.grown k2 (fun e => by have := (Own.blk Hown.out _ e.symm).1; omega))
                    have K4 := Lib.hid k4
                    have hz2 : w.heap.size + 1 ≤ w2.heap.size := K2.out.lt
                    clear k1 k2 k3 k4 hown he pc0 pc1 pc2 pc3 pc4 Hown Hb He hle
                    go_wp2_with fail
                    go_meet
                    exact ⟨A2, q + 1 + 1, c2, rfl, K1, K2, K4, hz2⟩
              case rest =>
                clear pc0 pc1 pc2 pc3 pc4 Hown Hb He hle Hl Hbw hq
                obtain ⟨O, q, d, rfl, Hown, Hb, He, hle⟩ := hcut
                have hq : q ≤ 8 := by have h1 := Hown.out.ints.len; have h2 := keysF_len ⟨f, r, o, v, a⟩; omega
                have HAl := Lib.hid (all_ok Hown.out.ints (by omega))
                rcases hA : allA (keysF ⟨f, r, o, v, a⟩) with ⟨out, ⟨p0, p1, p2, p3, p4⟩, wr⟩
                have HA := Lib.hid hA
                rw [hA] at HAl
                unfold ptV at HAl
                simp only at HAl
                clear hA
                go_wp2_with fail
                refine HAl.out.mono ?_
                rintro e w4 ⟨L, z, y, rfl, rL, he4⟩
                have hl : out.length = z := by have := Rd.len rL; rw [rowC_len] at this; omega
                have HL : Hid (Cms w4 L z y out) := Lib.hid rL
                have Hown4 := Lib.hid (Hown.out.ext he4)
                have Hb4 := Lib.hid (Hb.out.ext he4)
                have He4 := Lib.hid (He.out.trans he4)
                have hg := Hb4.out.lt
                clear rL he4 HAl Hown Hb He hle
                have ea := Ext.alloc w4 (.cells #[.int .i64 p0, .int .i64 p1, .int .i64 p2, .int .i64 p3, .int .i64 p4] 25)
                have ht7 := Blk.new w4 25 #[.int .i64 p0, .int .i64 p1, .int .i64 p2, .int .i64 p3, .int .i64 p4]
                obtain ⟨⟨c0, c1, c2, c3, c4⟩, _⟩ := (Hb4.out.ext ea).five
                obtain ⟨⟨e0, e1, e2, e3, e4⟩, _⟩ := ht7.five
                by_cases hz1' : z = 1
                · subst hz1'
                  have HL2 : Cms (w4.alloc (.cells #[.int .i64 p0, .int .i64 p1, .int .i64 p2, .int .i64 p3, .int .i64 p4] 25)) L 1 y out := Rd.ext HL.out ea
                  obtain ⟨ad, x, rfl, hx, a0, a1, a2, a3, a4⟩ := HL2.at_ (k := 0) (by omega)
                  obtain rfl : out = [x] := by
                    cases out with
                    | nil => simp at hl
                    | cons x' out => cases out with
                      | nil => simp at hx; rw [hx]
                      | cons _ _ => simp at hl
                  simp only [Nat.zero_mul, add_nought] at a0 a1 a2 a3 a4
                  obtain ⟨x0, x1, x2, x3, x4⟩ := x
                  simp only at a0 a1 a2 a3 a4
                  clear hl hx HL2 ea ht7
                  by_cases hxc : x0 = f ∧ x1 = r ∧ x2 = o ∧ x3 = v ∧ x4 = a
                  · obtain ⟨rfl, rfl, rfl, rfl, rfl⟩ := hxc
                    by_cases hp0 : p0 = 0 ∧ p1 = 0 ∧ p2 = 0 ∧ p3 = 0 ∧ p4 = 0
                    · obtain ⟨rfl, rfl, rfl, rfl, rfl⟩ := hp0
                      by_cases hw0 : wr = 0
                      · subst hw0
                        go_upto_region 17 with fail
                        go_quiet (fail)
                        go_wp2_with fail
                        go_ret2
                        exact ⟨(He4.out.trans (Ext.alloc _ _)).to_drewN _, .inr ⟨O, q, d, rfl, Own.lower (Hown4.out.ext ((Ext.alloc _ _).to_drewN _)) (Nat.le_succ _), HA.out⟩⟩
                      · have hw1 : ((wr : Int) != 0) = true := by simp; omega
                        have hw2 : ((wr : Int) == 0) = false := by simp; omega
                        have hw3 : 0 < wr := by omega
                        go_upto_region 17 with fail
                        go_quiet (fail)
                        go_wp2_with fail
                        go_ret2
                        exact ⟨(He4.out.trans (Ext.alloc _ _)).to_drewN _, .inl ⟨4, rfl, by omega, by rw [HA.out]; rintro ⟨_, _, h⟩; injection h with _ _ h; exact hw0 h⟩⟩
                    · have HNN : Hid (¬ (0 ≤ x0 ∧ x0 ≤ 999 ∧ allA (keysF ⟨x0, x1, x2, x3, x4⟩) = ⟨[⟨x0, x1, x2, x3, x4⟩], Pt.zero, 0⟩)) := Lib.hid (by rw [HA.out]; rintro ⟨_, _, h⟩; injection h with _ h _; unfold Pt.zero at h; injection h with h0 h1 h2 h3 h4; exact hp0 ⟨h0, h1, h2, h3, h4⟩)
                      rcases ne5 hp0 with hne | ⟨rfl, hne⟩ | ⟨rfl, rfl, hne⟩ | ⟨rfl, rfl, rfl, hne⟩ | ⟨rfl, rfl, rfl, rfl, hne⟩
                      all_goals clear hp0
                      · have hn : ¬ p0 = 0 := hne
                        have hnb : (p0 == 0) = false := by simpa using hne
                        clear hne
                        go_upto_region 17 with fail
                        go_quiet (fail)
                        go_wp2_with fail
                        go_ret2
                        exact ⟨(He4.out.trans (Ext.alloc _ _)).to_drewN _, .inl ⟨4, rfl, by omega, HNN.out⟩⟩
                      · have hn : ¬ p1 = 0 := hne
                        have hnb : (p1 == 0) = false := by simpa using hne
                        clear hne
                        go_upto_region 17 with fail
                        go_quiet (fail)
                        go_wp2_with fail
                        go_ret2
                        exact ⟨(He4.out.trans (Ext.alloc _ _)).to_drewN _, .inl ⟨4, rfl, by omega, HNN.out⟩⟩
                      · have hn : ¬ p2 = 0 := hne
                        have hnb : (p2 == 0) = false := by simpa using hne
                        clear hne
                        go_upto_region 17 with fail
                        go_quiet (fail)
                        go_wp2_with fail
                        go_ret2
                        exact ⟨(He4.out.trans (Ext.alloc _ _)).to_drewN _, .inl ⟨4, rfl, by omega, HNN.out⟩⟩
                      · have hn : ¬ p3 = 0 := hne
                        have hnb : (p3 == 0) = false := by simpa using hne
                        clear hne
                        go_upto_region 17 with fail
                        go_quiet (fail)
                        go_wp2_with fail
                        go_ret2
                        exact ⟨(He4.out.trans (Ext.alloc _ _)).to_drewN _, .inl ⟨4, rfl, by omega, HNN.out⟩⟩
                      · have hn : ¬ p4 = 0 := hne
                        have hnb : (p4 == 0) = false := by simpa using hne
                        clear hne
                        go_upto_region 17 with fail
                        go_quiet (fail)
                        go_wp2_with fail
                        go_ret2
                        exact ⟨(He4.out.trans (Ext.alloc _ _)).to_drewN _, .inl ⟨4, rfl, by omega, HNN.out⟩⟩
                  · have HNN : Hid (¬ (0 ≤ f ∧ f ≤ 999 ∧ allA (keysF ⟨f, r, o, v, a⟩) = ⟨[⟨f, r, o, v, a⟩], Pt.zero, 0⟩)) := Lib.hid (by rw [HA.out]; rintro ⟨_, _, h⟩; injection h with h _ _; injection h with h _; injection h with h0 h1 h2 h3 h4; exact hxc ⟨h0, h1, h2, h3, h4⟩)
                    rcases ne5 hxc with hne | ⟨rfl, hne⟩ | ⟨rfl, rfl, hne⟩ | ⟨rfl, rfl, rfl, hne⟩ | ⟨rfl, rfl, rfl, rfl, hne⟩
                    all_goals clear hxc
                    · have hn : ¬ x0 = f := hne
                      have hnb : (x0 == f) = false := by simpa using hne
                      clear hne
                      go_upto_region 17 with fail
                      go_quiet (fail)
                      go_wp2_with fail
                      go_ret2
                      exact ⟨(He4.out.trans (Ext.alloc _ _)).to_drewN _, .inl ⟨4, rfl, by omega, HNN.out⟩⟩
                    · have hn : ¬ x1 = r := hne
                      have hnb : (x1 == r) = false := by simpa using hne
                      clear hne
                      go_upto_region 17 with fail
                      go_quiet (fail)
                      go_wp2_with fail
                      go_ret2
                      exact ⟨(He4.out.trans (Ext.alloc _ _)).to_drewN _, .inl ⟨4, rfl, by omega, HNN.out⟩⟩
                    · have hn : ¬ x2 = o := hne
                      have hnb : (x2 == o) = false := by simpa using hne
                      clear hne
                      go_upto_region 17 with fail
                      go_quiet (fail)
                      go_wp2_with fail
                      go_ret2
                      exact ⟨(He4.out.trans (Ext.alloc _ _)).to_drewN _, .inl ⟨4, rfl, by omega, HNN.out⟩⟩
                    · have hn : ¬ x3 = v := hne
                      have hnb : (x3 == v) = false := by simpa using hne
                      clear hne
                      go_upto_region 17 with fail
                      go_quiet (fail)
                      go_wp2_with fail
                      go_ret2
                      exact ⟨(He4.out.trans (Ext.alloc _ _)).to_drewN _, .inl ⟨4, rfl, by omega, HNN.out⟩⟩
                    · have hn : ¬ x4 = a := hne
                      have hnb : (x4 == a) = false := by simpa using hne
                      clear hne
                      go_upto_region 17 with fail
                      go_quiet (fail)
                      go_wp2_with fail
                      go_ret2
                      exact ⟨(He4.out.trans (Ext.alloc _ _)).to_drewN _, .inl ⟨4, rfl, by omega, HNN.out⟩⟩
                · have hzb : ((z : Int) != 1) = true := by simp; omega
                  have hzc : ((z : Int) == 1) = false := by simp; omega
                  clear ea ht7
                  go_upto_region 17 with fail
                  go_quiet (fail)
                  go_wp2_with fail
                  go_ret2
                  exact ⟨(He4.out.trans (Ext.alloc _ _)).to_drewN _, .inl ⟨4, rfl, by omega, by rw [HA.out]; rintro ⟨_, _, h⟩; injection h with h _ _; rw [h] at hl; simp at hl; omega⟩⟩
  · have hbad : f < 0 ∨ 999 < f := by omega
    clear hcb
    have HN : Hid (¬ (0 ≤ f ∧ f ≤ 999 ∧ allA (keysF ⟨f, r, o, v, a⟩) = ⟨[⟨f, r, o, v, a⟩], Pt.zero, 0⟩)) := Lib.hid (by rintro ⟨h1, h2, _⟩; omega)
    rcases hbad with h | h
    · go_enter Try.func12, Try.ntmps12
      go_wp2_with fail
      go_ret2
      exact ⟨Ext.alloc _ _, .inl ⟨1, rfl, by omega, HN.out⟩⟩
    · have h' : ¬ f < 0 := by omega
      go_enter Try.func12, Try.ntmps12
      go_wp2_with fail
      go_ret2
      exact ⟨Ext.alloc _ _, .inl ⟨1, rfl, by omega, HN.out⟩⟩
end Go.Proofs.Ytpgffhmcangllaa
