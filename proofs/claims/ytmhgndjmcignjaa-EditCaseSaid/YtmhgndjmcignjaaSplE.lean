/-
  SameEdit of one and the same edit: the walk.
-/
import Derived.Test.YtmhgndjmcignjaaSplD
import Derived.Test.YtmhgndjmcignjaaEq
namespace Go.Proofs.Ytmhgndjmcignjaa
open Go.RowKit
set_option linter.unusedVariables false
set_option linter.unusedSimpArgs false

theorem equal_same {A B : Option Addr} {n c m d : Nat} {l : List Int} {w : World} (hl : Ints w A n c l) (hl' : Ints w B m d l) :
    Calls Try.prog 10 #[.slice A n c, .slice B m d] w fun e w' => e = .returned (.bool true) ∧ Ext w w' :=
  (equal_ext hl hl').mono fun e w' ⟨h1, h2⟩ => ⟨by rw [h1, eqB_true.2 rfl], h2⟩

set_option maxRecDepth 20000 in
set_option maxHeartbeats 2000000 in
theorem same1_ok {f t : Int} {A B : Option Addr} {n c m d : Nat} {x : List Int} {w : World} (hl : Ints w A n c x) (hl' : Ints w B m d x) :
    Calls Try.prog 27 #[.agg #[.int .i64 f, .int .i64 t, .slice A n c], .agg #[.int .i64 f, .int .i64 t, .slice B m d]] w fun e w' => e = .returned (.bool true) ∧ Ext w w' := by
  have hx : Ext w ((w.alloc (.cells #[.int .i64 f, .int .i64 t, .slice A n c] 64)).alloc (.cells #[.int .i64 f, .int .i64 t, .slice B m d] 64)) := (Ext.alloc _ _).to_alloc _
  have HC := Lib.hid (equal_same (hl.ext hx) (hl'.ext hx))
  have b1 : (f == f) = true := by simp
  have b2 : (t == t) = true := by simp
  clear hl hl'
  go_enter Try.func27, Try.ntmps27
  go_wp2_with fail
  refine HC.out.mono ?_
  rintro e w1 ⟨rfl, he1⟩
  go_wp2_with fail
  go_ret
  exact ⟨rfl, hx.trans he1⟩

set_option maxRecDepth 20000 in
set_option maxHeartbeats 4000000 in
theorem equalFunc_ok {A B : Option Addr} {n c d : Nat} {e : List Spl} {w : World} (h : EditAt w A n c e) (h' : EditAt w B n d e) :
    Calls Try.prog 26 #[.slice A n c, .slice B n d, .func (.func 27) #[] #[]] w fun e w' => e = .returned (.bool true) ∧ Ext w w' := by
  have hnc := h.ncap
  have hcm := h.nmax
  have hnd := h'.ncap
  have hdm := h'.nmax
  unfold maxLen at hcm hdm
  have hne : ((n : Int) != (n : Int)) = false := by simp
  go_enter Try.func26, Try.ntmps26
  go_wp2_with fail
  go_loopw [17] (fun i wr => ∃ k : Nat, k ≤ n ∧ i = .int .i64 k ∧ Ext w wr) (fun i _ => n - (intOf i).toNat)
  case atStart => exact ⟨0, by omega, rfl, Ext.refl _⟩
  case round =>
    obtain ⟨k, hk, rfl, he⟩ := hrel
    by_cases hlt : k < n
    · obtain ⟨ad, S, x, y, rfl, k0, k1, k2, hx, _⟩ := h.at_ hlt
      obtain ⟨ad', S', x', y', rfl, l0, l1, l2, hx', _⟩ := h'.at_ hlt
      have c0 := he.cell k0
      have c1 := he.cell k1
      have c2 := he.cell k2
      have d0 := he.cell l0
      have d1 := he.cell l1
      have d2 := he.cell l2
      clear k0 k1 k2 l0 l1 l2
      generalize (gE e k).f = f at *
      generalize (gE e k).t = t at *
      generalize (gE e k).x = z at *
      have e1 := (Ext.alloc wr (.cells #[.int .i64 f, .int .i64 t, .slice S x y] 64)).cell d0
      have e2 := (Ext.alloc wr (.cells #[.int .i64 f, .int .i64 t, .slice S x y] 64)).cell d1
      have e3 := (Ext.alloc wr (.cells #[.int .i64 f, .int .i64 t, .slice S x y] 64)).cell d2
      have hx2 : Ext w ((wr.alloc (.cells #[.int .i64 f, .int .i64 t, .slice S x y] 64)).alloc (.cells #[.int .i64 f, .int .i64 t, .slice S' x' y'] 64)) := (he.to_alloc _).to_alloc _
      have HC := Lib.hid (same1_ok (f := f) (t := t) (hx.ext hx2) (hx'.ext hx2))
      clear hx hx' d0 d1 d2
      go_wp2_with fail
      refine HC.out.mono ?_
      rintro e' w1 ⟨rfl, he1⟩
      clear HC
      go_wp2_with fail
      go_roundw
      case rel => exact ⟨k + 1, by omega, by go_num, hx2.trans he1⟩
      case measure => simp [intOf]; omega
    · obtain rfl : k = n := by omega
      go_wp2_with fail
      go_ret
      exact ⟨rfl, he⟩

set_option maxRecDepth 20000 in
set_option maxHeartbeats 1000000 in
theorem sameEdit_ok {A B : Option Addr} {n c d : Nat} {e : List Spl} {w : World} (h : EditAt w A n c e) (h' : EditAt w B n d e) :
    Calls Try.prog 19 #[.slice A n c, .slice B n d] w fun e w' => e = .returned (.bool true) ∧ Ext w w' := by
  have HC := Lib.hid (equalFunc_ok h h')
  clear h h'
  go_enter Try.func19, Try.ntmps19
  go_wp2_with fail
  refine HC.out.mono ?_
  rintro e' w1 ⟨rfl, he1⟩
  go_wp2_with fail
  go_ret
  exact ⟨rfl, he1⟩
end Go.Proofs.Ytmhgndjmcignjaa
