/-
  slices.Compare where the first list comes ahead; slices.ContainsFunc at the statement's test.
-/
import Derived.Test.YtdkjkcegchohfaaTriR
import Derived.Test.YtdkjkcegchohfaaTriC
namespace Go.Proofs.Ytdkjkcegchohfaa
open Go.RowKit Go.Lib
set_option linter.unusedVariables false
set_option linter.unusedSimpArgs false
attribute [local go_sem] Oper.semAt_some

theorem cmpT_ok (x y : Int) (w : World) : Calls Try.prog 42 #[.int .i64 x, .int .i64 y] w fun e w' => e = .returned (.int .i64 (Lib.compareInt x y)) ∧ w' = w :=
  AnyG.cmp_Compare_int cmpT x y w
theorem cmp_same (x : Int) : Lib.compareInt x x = 0 := by unfold Lib.compareInt; simp
theorem cmp_less {x y : Int} (h : x < y) : Lib.compareInt x y = -1 := by unfold Lib.compareInt; simp [h]
theorem ltL_cons {x y : Int} {a b : List Int} : ltL (x :: a) (y :: b) ↔ x < y ∨ (x = y ∧ ltL a b) := Iff.rfl
theorem drop_cons {l : List Int} {k : Nat} (h : k < l.length) : l.drop k = gI l k :: l.drop (k + 1) := by
  rw [List.drop_eq_getElem_cons h]
  congr 1
  unfold gI
  rw [List.getElem?_eq_getElem h]; rfl

set_option maxRecDepth 20000 in
set_option maxHeartbeats 1000000 in
theorem compare_ok {A B : Option Addr} {n c m d : Nat} {a b : List Int} {w : World} (ha : Ints w A n c a) (hb : Ints w B m d b) (h : ltL a b) :
    Calls Try.prog 31 #[.slice A n c, .slice B m d] w fun e w' => e = .returned (.int .i64 (-1)) ∧ w' = w := by
  have HN := Lib.hid ha.len
  have HM := Lib.hid hb.len
  have h1 := Nat.le_trans ha.ncap ha.nmax
  have h2 := Nat.le_trans hb.ncap hb.nmax
  have HA := Lib.hid ha
  have HB := Lib.hid hb
  have HH := Lib.hid h
  unfold maxLen at h1 h2
  clear ha hb h
  go_enter Try.func31, Try.ntmps31
  go_wp2_with fail
  go_loopw [11] (fun i wr => ∃ k : Nat, k ≤ n ∧ i = .int .i64 k ∧ Hid (ltL (a.drop k) (b.drop k)) ∧ wr = w) (fun i _ => n - (intOf i).toNat)
  case atStart => exact ⟨0, by omega, rfl, by simpa using HH, rfl⟩
  case round =>
    obtain ⟨k, hk, rfl, HK, rfl⟩ := hrel
    by_cases hlt : k < n
    · by_cases hlm : k < m
      · obtain ⟨a1, rfl, hc1⟩ := HA.out.at_ hlt
        obtain ⟨b1, rfl, hc2⟩ := HB.out.at_ hlm
        have c1 := hc1 k hlt
        have c2 := hc2 k hlm
        have hK := HK.out
        rw [drop_cons (l := a) (by rw [HN.out]; exact hlt), drop_cons (l := b) (by rw [HM.out]; exact hlm), ltL_cons] at hK
        obtain ⟨x, hx⟩ : ∃ x, x = gI a k := ⟨_, rfl⟩
        obtain ⟨y, hy⟩ : ∃ y, y = gI b k := ⟨_, rfl⟩
        rw [← hx, ← hy] at hK
        rw [← hx] at c1
        rw [← hy] at c2
        clear hc1 hc2 hx hy HK
        rcases hK with hK | ⟨rfl, hK⟩
        · have hcm := cmpT_ok x y wr
          rw [cmp_less hK] at hcm
          clear hK
          go_wp2_with fail
          refine hcm.mono ?_
          rintro e wr ⟨rfl, rfl⟩
          clear hcm
          go_wp2_with fail
          go_ret
          exact ⟨rfl, rfl⟩
        · have hcm := cmpT_ok x x wr
          rw [cmp_same] at hcm
          have HK2 := Lib.hid hK
          clear hK
          go_wp2_with fail
          refine hcm.mono ?_
          rintro e wr ⟨rfl, rfl⟩
          clear hcm
          go_wp2_with fail
          go_roundw
          case rel => exact ⟨k + 1, by omega, by go_num, HK2, by trivial⟩
          case measure => simp [intOf]; omega
      · exfalso
        have := HK.out
        rw [List.drop_eq_nil_of_le (show b.length ≤ k by rw [HM.out]; omega), drop_cons (l := a) (by rw [HN.out]; exact hlt)] at this
        exact this
    · obtain rfl : k = n := by omega
      have hlm : k < m := by
        rcases Nat.lt_or_ge k m with h | h
        · exact h
        · exfalso
          have := HK.out
          rw [List.drop_eq_nil_of_le (show b.length ≤ k by rw [HM.out]; omega), List.drop_eq_nil_of_le (show a.length ≤ k by rw [HN.out]; omega)] at this
          exact this
      go_wp2_with fail
      go_ret
      exact ⟨rfl, rfl⟩

/-- The tests: is it that list? -/
theorem same1_ok {A B : Option Addr} {n c m d g : Nat} {l x : List Int} {w : World} (hl : Ints w A n c l) (hx : Ints w B m d x) (hg : w.cell? ⟨g, 0, none⟩ = some (.slice B m d)) :
    Calls Try.prog 33 #[.slice A n c, .pointer (some ⟨g, 0, none⟩)] w fun e w' => e = .returned (.bool (eqB l x)) ∧ Ext w w' := by
  have hE := equal_ext hl hx
  go_enter Try.func33, Try.ntmps33
  go_wp2_with fail
  refine hE.mono ?_
  rintro e w1 ⟨rfl, he⟩
  clear hE
  go_wp2_with fail
  go_ret
  exact ⟨rfl, he⟩
theorem same2_ok {A B : Option Addr} {n c m d g : Nat} {l x : List Int} {w : World} (hl : Ints w A n c l) (hx : Ints w B m d x) (hg : w.cell? ⟨g, 0, none⟩ = some (.slice B m d)) :
    Calls Try.prog 34 #[.slice A n c, .pointer (some ⟨g, 0, none⟩)] w fun e w' => e = .returned (.bool (eqB l x)) ∧ Ext w w' := by
  have hE := equal_ext hl hx
  go_enter Try.func34, Try.ntmps34
  go_wp2_with fail
  refine hE.mono ?_
  rintro e w1 ⟨rfl, he⟩
  clear hE
  go_wp2_with fail
  go_ret
  exact ⟨rfl, he⟩

set_option maxRecDepth 20000 in
set_option maxHeartbeats 1000000 in
theorem indexL_ok {A : Option Addr} {n c g f : Nat} {ls : List (List Int)} {x : List Int} {w : World} (hl : Lns w A n c ls) (eg : ∀ args W, (callFunc f args).run Try.prog W = .ok (.enter f args) W)
    (hf : ∀ W A n c l, Ext w W → Ints W A n c l → Calls Try.prog f #[.slice A n c, .pointer (some ⟨g, 0, none⟩)] W fun e W' => e = .returned (.bool (eqB l x)) ∧ Ext W W') (hx : x ∈ ls) :
    Calls Try.prog 54 #[.slice A n c, .func (.func f) #[] #[.pointer (some ⟨g, 0, none⟩)]] w fun e w' => (∃ k : Nat, e = .returned (.int .i64 k)) ∧ Ext w w' := by
  have h1 := Nat.le_trans hl.ncap hl.nmax
  unfold maxLen at h1
  have HL := Lib.hid hl
  have HN := Lib.hid hl.len
  have HF := Lib.hid hf
  have HX := Lib.hid hx
  clear hl hf hx
  go_enter Try.func54, Try.ntmps54
  go_wp2_with fail
  go_loopw [8] (fun i wr => ∃ k : Nat, k ≤ n ∧ i = .int .i64 k ∧ Hid (x ∉ ls.take k) ∧ Ext w wr) (fun i _ => n - (intOf i).toNat)
  case atStart => exact ⟨0, by omega, rfl, Lib.hid (by simp), Ext.refl _⟩
  case round =>
    obtain ⟨k, hk, rfl, HK, he⟩ := hrel
    by_cases hlt : k < n
    · obtain ⟨ad, v, rfl, hc, B, m, d, rfl, hi, hBd, hm8⟩ := HL.out.at_ hlt
      have c1 := he.cell hc
      have hcl := HF.out wr B m d (gL ls k) he (hi.ext he)
      have HTK : Hid (ls.take (k + 1) = ls.take k ++ [gL ls k]) := Lib.hid (take_gL (by rw [HN.out]; exact hlt)).symm
      clear hc hi
      by_cases hz : gL ls k = x
      · rw [eqB_true.2 hz] at hcl
        clear hz
        go_wp2_with fail
        refine hcl.mono ?_
        rintro e w1 ⟨rfl, he1⟩
        clear hcl
        go_wp2_with fail
        go_ret
        exact ⟨⟨k, rfl⟩, he.trans he1⟩
      · have hzf : eqB (gL ls k) x = false := by
          cases hb : eqB (gL ls k) x with
          | false => rfl
          | true => exact absurd (eqB_true.1 hb) hz
        rw [hzf] at hcl
        have HZ := Lib.hid hz
        clear hz hzf
        go_wp2_with fail
        refine hcl.mono ?_
        rintro e w1 ⟨rfl, he1⟩
        clear hcl
        go_wp2_with fail
        go_roundw
        case rel =>
          refine ⟨k + 1, by omega, by go_num, Lib.hid ?_, he.trans he1⟩
          rw [HTK.out, List.mem_append, List.mem_singleton, not_or]
          exact ⟨HK.out, fun e => HZ.out e.symm⟩
        case measure => simp [intOf]; omega
    · obtain rfl : k = n := by omega
      exfalso
      have := HK.out
      rw [List.take_of_length_le (by rw [HN.out]; exact Nat.le_refl _)] at this
      exact this HX.out

set_option maxRecDepth 20000 in
set_option maxHeartbeats 1000000 in
theorem containsL_ok {A : Option Addr} {n c g f : Nat} {ls : List (List Int)} {x : List Int} {w : World} (hl : Lns w A n c ls) (eg : ∀ args W, (callFunc f args).run Try.prog W = .ok (.enter f args) W)
    (hf : ∀ W A n c l, Ext w W → Ints W A n c l → Calls Try.prog f #[.slice A n c, .pointer (some ⟨g, 0, none⟩)] W fun e W' => e = .returned (.bool (eqB l x)) ∧ Ext W W') (hx : x ∈ ls) :
    Calls Try.prog 32 #[.slice A n c, .func (.func f) #[] #[.pointer (some ⟨g, 0, none⟩)]] w fun e w' => e = .returned (.bool true) ∧ Ext w w' := by
  have HC := Lib.hid (indexL_ok hl eg hf hx)
  clear hl hf hx eg
  go_enter Try.func32, Try.ntmps32
  go_wp2_with fail
  refine HC.out.mono ?_
  rintro e w1 ⟨⟨k, rfl⟩, he⟩
  clear HC
  go_wp2_with fail
  go_ret
  exact ⟨rfl, he⟩
/-- As step_callf, where the operation bears a guard that lets it come. -/
theorem step_callwT {P : Program} {ops : Array Oper} {o : Oper} {a : Act} {w : World} {K : Act → World → Prop} {Q : Exit → Act → World → Prop} {E : Prop} {ars : Array Operand} {tys : Array TypeId} (hw : Region.wanted o (yielded ops a.tmps) = true)
    (f : FuncId) (args : Array Value) (ho : o.op = .call { callee := .value (.func f), args := ars, argTypes := tys }) (hrun : (execOp a.eval o).run P w = .ok (.enter f args) w) (R : Value → World → Prop)
    (hc : Calls P f args w fun e w' => ∃ v, e = .returned v ∧ R v w') (h : ∀ v w', R v w' → K (a.put o.dst v) w') : if Region.wanted o (yielded ops a.tmps) = true then Oper.wp P o a w K Q else E := by
  rw [if_pos hw]
  unfold Oper.wp
  rw [hrun, Oper.upon_enter]
  refine hc.mono fun e w' hh => ?_
  obtain ⟨v, rfl, hR⟩ := hh
  exact h v w' hR
end Go.Proofs.Ytdkjkcegchohfaa
