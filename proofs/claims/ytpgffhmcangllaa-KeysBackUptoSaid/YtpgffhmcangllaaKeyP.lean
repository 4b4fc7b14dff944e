/-
  The walk of KeysCount.
-/
import Derived.Test.YtpgffhmcangllaaKeyO
import Derived.Test.YtpgffhmcangllaaConc
import Derived.Test.YtpgffhmcangllaaLib
import Derived.Deep.RegionHeld3
import Derived.IntWalk
import Derived.Deep.DeepCutAuto
namespace Go.Proofs.Ytpgffhmcangllaa
open Go.RowKit
set_option linter.unusedVariables false
set_option linter.unusedSimpArgs false

theorem write_told {f r o v a : Int} (w : World) (h : Told ⟨f, r, o, v, a⟩) : Calls Try.prog 12 #[.agg #[.int .i64 f, .int .i64 r, .int .i64 o, .int .i64 v, .int .i64 a]] w fun e w' =>
    ∃ O q d, e = .returned (.tuple #[.slice O q d, .int .i64 0]) ∧ OwnI w' w.heap.size O q d (keysF ⟨f, r, o, v, a⟩) ∧ Ext w w' :=
  (write_any w).mono fun e w' ⟨hx, hh⟩ => by
    rcases hh with ⟨k, _, _, hn⟩ | ⟨O, q, d, he, hO, _⟩
    · exact absurd ⟨h.1, h.2.1, told_again h⟩ hn
    · exact ⟨O, q, d, he, hO, hx⟩

theorem take_dig2 {f r s k : Int} {op : Int} (hop : op ≠ 0) (h : (49 ≤ k ∧ k ≤ 57) ∨ (k = 48 ∧ 0 < s)) : takeK ⟨f, r, op, s, 0⟩ k = ⟨⟨f, r, op, countF s k, 0⟩, Cm.zero, 1⟩ := by
  have hd : digB ⟨f, r, op, s, 0⟩ k = true := by
    unfold digB cntF
    simp [hop]
    omega
  have hk : kindF ⟨f, r, op, s, 0⟩ k = 1 := by unfold kindF; rw [if_pos hd]
  unfold takeK
  rw [if_neg (by omega), if_neg (by simp), if_pos hk, if_pos hop]
theorem fold_digs2 {f r op n : Int} (hop : op ≠ 0) (h0 : 0 ≤ n) (h9 : n ≤ 999) (o : List Cm) (wr : Nat) : foldA ⟨o, ⟨f, r, op, 0, 0⟩, wr⟩ (digsF n) = ⟨o, ⟨f, r, op, n, 0⟩, wr⟩ := by
  have key : ∀ (s k : Int) (l : List Int), ((49 ≤ k ∧ k ≤ 57) ∨ (k = 48 ∧ 0 < s)) → foldA ⟨o, ⟨f, r, op, s, 0⟩, wr⟩ (k :: l) = foldA ⟨o, ⟨f, r, op, countF s k, 0⟩, wr⟩ l := by
    intro s k l h
    rw [fold_cons, step_more (take_dig2 hop h)]
  unfold digsF
  by_cases h100 : 100 ≤ n
  · rw [if_pos h100, if_pos (by omega), if_pos (by omega)]
    simp only [List.cons_append, List.nil_append]
    rw [key _ _ _ (by omega), key _ _ _ (by unfold countF; omega), key _ _ _ (by unfold countF; omega), fold_nil]
    congr 2
    unfold countF; omega
  · rw [if_neg h100]
    by_cases h10 : 10 ≤ n
    · rw [if_pos h10, if_pos (by omega)]
      simp only [List.cons_append, List.nil_append]
      rw [key _ _ _ (by omega), key _ _ _ (by unfold countF; omega), fold_nil]
      congr 2
      unfold countF; omega
    · rw [if_neg h10]
      by_cases h1 : 1 ≤ n
      · rw [if_pos h1]
        simp only [List.cons_append, List.nil_append]
        rw [key _ _ _ (by omega), fold_nil]
        congr 2
        unfold countF; omega
      · rw [if_neg h1]
        obtain rfl : n = 0 := by omega
        rfl
theorem take_w {f s : Int} : takeK ⟨f, 0, 99, s, 0⟩ 119 = ⟨Pt.zero, ⟨totF ⟨f, 0, 99, s, 0⟩, 0, 99, 119, 0⟩, 2⟩ := by
  have hd : digB ⟨f, 0, 99, s, 0⟩ 119 = false := by unfold digB; simp
  have hk : kindF ⟨f, 0, 99, s, 0⟩ 119 = 5 := by unfold kindF; rw [hd]; rfl
  unfold takeK
  rw [if_neg (by omega), if_neg (by simp), if_neg (by omega), if_neg (by omega), if_neg (by omega), if_pos (by omega)]
  rfl
/-- Counts multiply. -/
theorem count_law {a b : Int} (ha : 1 ≤ a) (ha9 : a ≤ 999) (hb : 1 ≤ b) (hb9 : b ≤ 999) : allA (digsF a ++ ([99] ++ (digsF b ++ [119]))) = ⟨[⟨min 999 (a * b), 0, 99, 119, 0⟩], Pt.zero, 0⟩ := by
  unfold allA
  rw [foldA_app, show (⟨[], Pt.zero, 0⟩ : Al) = ⟨[], ⟨0, 0, 0, 0, 0⟩, 0⟩ from rfl, fold_digs (by omega) ha9, foldA_app, fold_cons, step_more (take_op (by rfl)), fold_nil, foldA_app, fold_digs2 (by omega) (by omega) hb9, fold_cons, step_done take_w, fold_nil]
  unfold totF
  rw [if_neg (by simp; omega), if_neg (by simp; omega)]
  rfl
theorem told_u {a : Int} (h0 : 1 ≤ a) (h9 : a ≤ 999) : Told ⟨a, 0, 0, 117, 0⟩ := ⟨by show 0 ≤ a; omega, h9, .inl rfl, .inl rfl, .inr (.inr (.inl ⟨rfl, rfl, .inl rfl⟩))⟩
theorem told_w {a : Int} (h0 : 1 ≤ a) (h9 : a ≤ 999) : Told ⟨a, 0, 0, 119, 0⟩ := ⟨by show 0 ≤ a; omega, h9, .inl rfl, .inl rfl, .inr (.inl ⟨rfl, rfl, fun h => absurd (show (119 : Int) = 48 from h) (by decide)⟩)⟩
theorem keys_u (a : Int) : keysF ⟨a, 0, 0, 117, 0⟩ = digsF a ++ [117] := by unfold keysF regF opF argF; simp [waitB, findB]
theorem keys_w (a : Int) : keysF ⟨a, 0, 0, 119, 0⟩ = digsF a ++ [119] := by unfold keysF regF opF argF; simp [waitB, findB]
theorem lit_2d3w : (allA (chars ⟨#[50, 100, 51, 119]⟩)).out = [⟨6, 0, 100, 119, 0⟩] := by
  have e0 : (allA (chars ⟨#[50, 100, 51, 119]⟩)).out.length = 1 := by decide +kernel
  have e1 : ((allA (chars ⟨#[50, 100, 51, 119]⟩)).out.map (·.count)) = [6] := by decide +kernel
  have e2 : ((allA (chars ⟨#[50, 100, 51, 119]⟩)).out.map (·.reg)) = [0] := by decide +kernel
  have e3 : ((allA (chars ⟨#[50, 100, 51, 119]⟩)).out.map (·.op)) = [100] := by decide +kernel
  have e4 : ((allA (chars ⟨#[50, 100, 51, 119]⟩)).out.map (·.verb)) = [119] := by decide +kernel
  have e5 : ((allA (chars ⟨#[50, 100, 51, 119]⟩)).out.map (·.arg)) = [0] := by decide +kernel
  generalize (allA (chars ⟨#[50, 100, 51, 119]⟩)).out = l at *
  cases l with
  | nil => simp at e0
  | cons x l =>
    cases l with
    | nil =>
      obtain ⟨x0, x1, x2, x3, x4⟩ := x
      simp at e1 e2 e3 e4 e5
      rw [e1, e2, e3, e4, e5]
    | cons _ _ => simp at e0

set_option maxRecDepth 100000 in
set_option maxHeartbeats 8000000 in
theorem keysCount_walk {a b : Int} {w : World} :
    Calls Try.prog 5 #[.int .i64 a, .int .i64 b] w fun e w' => e = .returned (.bool true) ∧ Ext w w' := by
  have HOf := Lib.hid (of_ok ⟨#[50, 100, 51, 119]⟩ w (by decide))
  go_enter Try.func5, Try.ntmps5
  go_wp2_with fail
  refine HOf.out.mono ?_
  rintro e w1 ⟨A1, c1, rfl, o1, he1⟩
  have HAl := Lib.hid (all_ok o1.ints (by decide))
  have hlit := lit_2d3w
  rcases hA : allA (chars ⟨#[50, 100, 51, 119]⟩) with ⟨out, ⟨p0, p1, p2, p3, p4⟩, wr⟩
  rw [hA] at HAl hlit
  unfold ptV at HAl
  simp only at HAl hlit
  subst hlit
  clear HOf hA o1
  go_wp2_with fail
  refine HAl.out.mono ?_
  rintro e w2 ⟨O2, q2, c2, rfl, r2, he2⟩
  obtain rfl : q2 = 1 := by
    have h9 := Rd.len r2
    rw [rowC_len] at h9
    simp at h9
    omega
  have ea := Ext.alloc w2 (.cells #[.int .i64 p0, .int .i64 p1, .int .i64 p2, .int .i64 p3, .int .i64 p4] 25)
  have hC2 : Cms _ O2 1 c2 [⟨6, 0, 100, 119, 0⟩] := Rd.ext r2 ea
  obtain ⟨ad, x, rfl, hx, a0, a1, a2, a3, a4⟩ := hC2.at_ (k := 0) (by omega)
  obtain rfl : x = ⟨6, 0, 100, 119, 0⟩ := by simpa using hx.symm
  simp only [Nat.zero_mul, add_nought] at a0
  have hx2 := (he1.trans he2).trans ea
  clear HAl r2 he1 he2 hx a1 a2 a3 a4 hC2 ea
  by_cases hab : 1 ≤ a ∧ 1 ≤ b ∧ a ≤ 999 ∧ b ≤ 999
  · obtain ⟨ha1, hb1, ha9, hb9⟩ := hab
    have hlaw := Lib.hid (count_law ha1 ha9 hb1 hb9)
    have HW1 := fun w => Lib.hid (write_told w (told_u ha1 ha9))
    have HW2 := fun w => Lib.hid (write_told w (told_w hb1 hb9))
    rw [keys_u] at HW1
    rw [keys_w] at HW2
    go_wp2_with fail
    refine ((HW1 _).out).mono ?_
    rintro e w3 ⟨O, q, d, rfl, OA, he3⟩
    have hx3 := hx2.trans he3
    clear hx2 he3 HW1 a0
    go_wp2_with fail
    refine ((HW2 _).out).mono ?_
    rintro e w4 ⟨O', q', d', rfl, OB, he4⟩
    obtain ⟨k, rfl⟩ : ∃ k, q = k + 1 := ⟨q - 1, by have := OA.ints.len; simp at this; omega⟩
    have IA : Ints w4 O k d (digsF a) := by
      have h := (OA.ints.ext he4).front (k := k) (by omega)
      have h2 := OA.ints.len
      rw [List.length_append, List.length_singleton] at h2
      rwa [List.take_append_of_le_length (by omega), List.take_of_length_le (by omega)] at h
    have hkd : k + 1 ≤ d := OA.ints.ncap
    have hdm : d ≤ 9223372036854775807 := by have := OA.ints.nmax; unfold maxLen at this; omega
    have HIA := Lib.hid IA
    have HIB := Lib.hid OB.ints
    have hx4 := Lib.hid (hx3.trans he4)
    clear OA OB hx3 he4 HW2 IA
    have hlk := HIA.out.len
    have hlq := HIB.out.len
    have hk3 : k ≤ 3 := by
      rw [← hlk]
      unfold digsF
      have h2 : (if 100 ≤ a then [48 + a / 100 % 10] else ([] : List Int)).length ≤ 1 := by split <;> simp
      have h3 : (if 10 ≤ a then [48 + a / 10 % 10] else ([] : List Int)).length ≤ 1 := by split <;> simp
      have h4 : (if 1 ≤ a then [48 + a % 10] else ([] : List Int)).length ≤ 1 := by split <;> simp
      simp only [List.length_append]
      omega
    have hq3 : q' ≤ 4 := by
      rw [← hlq]
      unfold digsF
      have h2 : (if 100 ≤ b then [48 + b / 100 % 10] else ([] : List Int)).length ≤ 1 := by split <;> simp
      have h3 : (if 10 ≤ b then [48 + b / 10 % 10] else ([] : List Int)).length ≤ 1 := by split <;> simp
      have h4 : (if 1 ≤ b then [48 + b % 10] else ([] : List Int)).length ≤ 1 := by split <;> simp
      simp only [List.length_append, List.length_singleton]
      omega
    have HLk := Lib.hid hlk
    have HLq := Lib.hid hlq
    clear hlk hlq
    have HOf := fun w => Lib.hid (of_ok ⟨#[99]⟩ w (by decide))
    have hc99 : chars ⟨#[99]⟩ = [99] := by decide
    rw [hc99] at HOf
    clear hc99
    have HCO : Hid (∀ (wq : World) (S B1 : Option Addr) (e1 : Nat), Ext w4 wq → Ints wq B1 1 e1 [99] → Rd wq 1 S 3 3 [.slice O k d, .slice B1 1 e1, .slice O' q' d'] → Calls Try.prog 8 #[.slice S 3 3] wq fun e w' => ∃ B n c, e = .returned (.slice B n c) ∧ OwnI w' wq.heap.size B n c (digsF a ++ ([99] ++ (digsF b ++ [119]))) ∧ n ≤ 8 ∧ Ext wq w') := Lib.hid (fun wq S B1 e1 he h1 hr => by
      have := concat_ok hr (Lists.three (HIA.out.ext he) h1 (HIB.out.ext he)) rfl (by have h5 := HLk.out; have h6 := HLq.out; simp at h6 ⊢; omega)
      rw [show ([digsF a, [99], digsF b ++ [119]] : List (List Int)).flatten = digsF a ++ ([99] ++ (digsF b ++ [119])) by simp] at this
      exact this.mono fun e w' ⟨B, n, c, h2, h3, h4⟩ => ⟨B, n, c, h2, h3, by have h5 := h3.ints.len; have h6 := HLk.out; have h7 := HLq.out; simp at h5 h7; omega, h4⟩)
    have HALL : Hid (∀ (wq : World) (C : Option Addr) (nc dc : Nat), nc ≤ 8 → Ints wq C nc dc (digsF a ++ ([99] ++ (digsF b ++ [119]))) → Calls Try.prog 6 #[.slice C nc dc] wq fun e w' => ∃ O d, e = .returned (.tuple #[.slice (some O) 1 d, .agg #[.int .i64 0, .int .i64 0, .int .i64 0, .int .i64 0, .int .i64 0], .int .i64 0]) ∧ Hid (Cms w' (some O) 1 d [⟨min 999 (a * b), 0, 99, 119, 0⟩]) ∧ Ext wq w') := Lib.hid (fun wq C nc dc hn hi => by
      have := all_ok hi (by omega)
      rw [hlaw.out] at this
      refine this.mono ?_
      rintro e w' ⟨O, q, d, he, hr, hx⟩
      obtain rfl : q = 1 := by
        have h9 := Rd.len hr
        rw [rowC_len] at h9
        simp at h9
        omega
      have hr2 : Cms w' O 1 d [⟨min 999 (a * b), 0, 99, 119, 0⟩] := hr
      obtain ⟨ad, x, rfl, _⟩ := hr2.at_ (k := 0) (by omega)
      exact ⟨ad, d, he, Lib.hid hr2, hx⟩)
    have hx0 := Ext.drew w4
    have z1 : IntKind.i64.wrap (k : Int) = k := IntWalk.i64_in _ (by omega)
    have z2 : IntKind.i64.wrap ((k : Int) + 1 - 1) = k := by rw [show (k : Int) + 1 - 1 = k by omega]; exact z1
    have z3 : (0 : Int) ≤ k := by omega
    have z4 : k ≤ d := by omega
    have z5 : (k : Int) ≤ d := by omega
    clear HIA HIB HLk HLq hlaw
    go_upto_region 8 with fail
    go_region_held3 (fun w' => Ext w4 w') (first
      | assumption
      | exact hx0
      | exact Ext.to_alloc (by assumption) _) (first
      | (go_at_call 7
         refine ((HOf _).out).mono ?_
         rintro e wa ⟨B1, e1, rfl, hoa, hea⟩
         have hSA := Ext.trans (a := w4) (by assumption) hea)
      | (go_at_call 8
         refine (HCO.out _ _ _ _ (Ext.to_alloc hSA _) (hoa.ints.ext (Ext.alloc _ _)) (Rd.litAt _ _ [.slice O k d, .slice B1 1 e1, .slice O' q' d'] (by first | rfl | simp) rfl (by omega))).mono ?_
         rintro e wb ⟨C, nc, dc, rfl, hoc, hn8, heb⟩
         have hSB := (Ext.to_alloc hSA _).trans heb)
      | (go_at_call 6
         refine (HALL.out _ _ _ _ hn8 hoc.ints).mono ?_
         rintro e wc ⟨L, y, rfl, HL, hec⟩
         have hSC := hSB.trans hec))
    have hend := hx4.out.trans hSC
    obtain ⟨ad2, x, hxe, hx, u0, u1, u2, u3, u4⟩ := HL.out.at_ (k := 0) (by omega)
    injection hxe with hxe
    subst hxe
    obtain rfl : x = ⟨min 999 (a * b), 0, 99, 119, 0⟩ := by simpa using hx.symm
    simp only [Nat.zero_mul, add_nought] at u0 u1 u2 u3 u4
    have hm1 : 1 ≤ a * b := by
      have := Int.mul_le_mul ha1 hb1 (by omega) (by omega)
      omega
    have hm2 : a * b ≤ 998001 := by
      have := Int.mul_le_mul ha9 hb9 (by omega) (by omega)
      omega
    clear HL hSC hSA hSB hea hoa heb hoc hec hx z1 z2 z3 z4 z5 HOf HCO HALL
    go_wp2_with fail
    all_goals first | (exfalso; omega) | (go_ret; exact ⟨rfl, hend⟩)
  · have hn : a < 1 ∨ b < 1 ∨ 999 < a ∨ 999 < b := by omega
    clear hab
    by_cases h1 : a < 1
    · go_wp2_with fail
      go_ret
      exact ⟨rfl, hx2⟩
    by_cases h2 : b < 1
    · go_wp2_with fail
      go_ret
      exact ⟨rfl, hx2⟩
    by_cases h3 : 999 < a
    · go_wp2_with fail
      go_ret
      exact ⟨rfl, hx2⟩
    · have h4 : 999 < b := by omega
      clear hn
      go_wp2_with fail
      go_ret
      exact ⟨rfl, hx2⟩
end Go.Proofs.Ytpgffhmcangllaa
