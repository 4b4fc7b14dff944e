/-
  The walks of mark.Move, slices.IndexFunc, ContainsFunc at the statements' tests.
-/
import Derived.Test.YtbdiiopllmhfeaaMarkM
import Derived.Test.YtbdiiopllmhfeaaRest
namespace Go.Proofs.Ytbdiiopllmhfeaa
open Go.RowKit
set_option linter.unusedVariables false
set_option linter.unusedSimpArgs false

set_option maxRecDepth 20000 in
set_option maxHeartbeats 8000000 in
theorem move_ok {e : List Spl} {E : Option Addr} {n m d k : Nat} {st : Bool} {w : World} (h : EditAt w E m d e) (hz : chkF n e = 0) (hk : k ≤ n) :
    Calls Try.prog 10 #[.int .i64 n, .slice E m d, .int .i64 k, .bool st] w fun e' w' => e' = .returned (.tuple #[.int .i64 (movF e k st), .int .i64 0]) ∧ Ext w w' := by
  obtain ⟨_, hn4, hg0, hf0⟩ := chkF_zero.1 hz
  have hn4 : n ≤ 4096 := by omega
  have hml := Lib.hid h.len
  have hmd := h.ncap
  have hdm := h.nmax
  unfold maxLen at hdm
  have HC := Lib.hid (check_in (N := n) h hn4)
  rw [hz] at HC
  have HG : Hid (∃ last, good n last (e.drop 0) ∧ behind 0 (e.drop 0) ∧ fits ((n : Int) + 0) (e.drop 0)) := Lib.hid ⟨-1, hg0, by rw [List.drop_zero]; exact behind_start hg0, by rw [Int.add_zero]; exact hf0⟩
  have HM : Hid (movF e k st = movL k st ((k : Int) + 0) (e.drop 0)) := Lib.hid (by rw [Int.add_zero]; rfl)
  clear hz hg0 hf0
  go_enter Try.func10, Try.ntmps10
  go_wp2_with fail
  refine HC.out.mono ?_
  rintro e' w1 ⟨rfl, he1⟩
  clear HC
  go_wp2_with fail
  go_loopw [11, 30] (fun o i wr => ∃ (j a : Nat) (moved out : Int), j ≤ m ∧ i = .int .i64 j ∧ o = .int .i64 out ∧ out = k + moved ∧ a ≤ n ∧ -(a : Int) ≤ moved ∧ moved ≤ 8192 ∧ Hid (movF e k st = movL k st ((k : Int) + moved) (e.drop j)) ∧ Hid (∃ last, good n last (e.drop j) ∧ behind a (e.drop j) ∧ fits ((n : Int) + moved) (e.drop j)) ∧ Ext w wr) (fun _ i _ => m - (intOf i).toNat)
  case atStart => exact ⟨0, 0, 0, k, by omega, rfl, rfl, by omega, by omega, by omega, by omega, HM, HG, he1⟩
  case round =>
    clear HG HM he1
    obtain ⟨j, a, moved, out, hj, rfl, rfl, hout, ha, hm1, hm2, HM, HG, he⟩ := hrel
    by_cases hlt : j < m
    · obtain ⟨ad, S, x, y, rfl, k0, k1, k2, hx, _⟩ := h.at_ hlt
      have c0 := he.cell k0
      have c1 := he.cell k1
      have c2 := he.cell k2
      clear k0 k1 k2
      have hxy := hx.ncap
      have hym := hx.nmax
      unfold maxLen at hym
      have hde := drop_edit (e := e) (k := j) (by rw [hml.out]; exact hlt)
      obtain ⟨last, hgd, hbh, hft⟩ := HG.out
      rw [hde] at hgd hbh hft
      obtain ⟨g1, g2, g3, g4, g5, g6⟩ := hgd
      obtain ⟨ft1, ft2⟩ := hft
      have haf : (a : Int) ≤ (gE e j).f := hbh _ rfl
      obtain ⟨f, hf⟩ := Int.eq_ofNat_of_zero_le (show 0 ≤ (gE e j).f by omega)
      obtain ⟨t, ht⟩ := Int.eq_ofNat_of_zero_le (show 0 ≤ (gE e j).t by omega)
      have hxl := hx.len
      rw [hf, ht, hxl] at ft1 ft2
      have haf2 : a ≤ f := by omega
      have hft : f ≤ t := by omega
      have htn : t ≤ n := by omega
      have hx4 : x ≤ 4096 := by omega
      have hmv : (n : Int) + moved - ((t : Int) - (f : Int)) + (x : Int) ≤ 8192 := ft1
      have HG2 : Hid (∃ last, good n last (e.drop (j + 1)) ∧ behind t (e.drop (j + 1)) ∧ fits ((n : Int) + (moved + ((x : Int) - ((t : Int) - (f : Int))))) (e.drop (j + 1))) := Lib.hid ⟨_, g6, behind_next g6 ht, by
        rw [show (n : Int) + (moved + ((x : Int) - ((t : Int) - (f : Int)))) = (n : Int) + moved - ((t : Int) - (f : Int)) + (x : Int) by omega]; exact ft2⟩
      have HS : Hid (movF e k st = if (k : Int) < f ∨ ((f : Int) = k ∧ st = true) then (k : Int) + moved else if (t : Int) ≤ k then movL k st ((k : Int) + moved + ((x : Int) - ((t : Int) - (f : Int)))) (e.drop (j + 1)) else (k : Int) + moved - ((k : Int) - f) + (if st then 0 else (x : Int))) := Lib.hid (by
        rw [HM.out, hde]
        simp only [movL, hf, ht, hxl, Int.ofNat_eq_natCast]
        cases st <;> rfl)
      rw [hf] at c0
      rw [ht] at c1
      have hx1 := he.to_alloc (.cells #[.int .i64 f, .int .i64 t, .slice S x y] 25)
      have HO := Lib.hid hout
      have hob1 : -8193 ≤ out := by omega
      have hob2 : out ≤ 12288 := by omega
      clear HG HM hde hbh g1 g2 g3 g4 g5 g6 haf hf ht hx hxl he ft1 ft2 hout
      by_cases h1 : (k : Int) < f
      · go_wp2_with fail
        go_ret2
        exact ⟨by rw [HS.out, if_pos (.inl h1), HO.out]; rfl, hx1⟩
      · by_cases h3 : (t : Int) ≤ k
        · have hmv3 : ∃ mv, moved + ((x : Int) - ((t : Int) - (f : Int))) = mv := ⟨_, rfl⟩
          obtain ⟨mv, hmv2⟩ := hmv3
          have hb1 : -(t : Int) ≤ mv := by omega
          have hb2 : mv ≤ 8192 := by omega
          rw [hmv2] at HG2
          have HMV : Hid (out + ((x : Int) - ((t : Int) - (f : Int))) = k + mv) := Lib.hid (by have := HO.out; omega)
          cases st with
          | false =>
            have HM2 : Hid (movF e k false = movL k false ((k : Int) + mv) (e.drop (j + 1))) := Lib.hid (by
              rw [HS.out, if_neg (by simp; omega), if_pos h3]
              congr 1; omega)
            by_cases h2 : (f : Int) = k
            · have b2 : ((f : Int) == (k : Int)) = true := by simpa using h2
              clear h2 hmv2 HS
              go_wp2_with fail
              go_roundw
              case rel => exact ⟨j + 1, t, mv, _, by omega, by go_num, rfl, HMV.out, htn, hb1, hb2, HM2, HG2, hx1⟩
              case measure => simp [intOf]; omega
            · have b2 : ((f : Int) == (k : Int)) = false := by simpa using h2
              clear h2 hmv2 HS
              go_wp2_with fail
              go_roundw
              case rel => exact ⟨j + 1, t, mv, _, by omega, by go_num, rfl, HMV.out, htn, hb1, hb2, HM2, HG2, hx1⟩
              case measure => simp [intOf]; omega
          | true =>
            by_cases h2 : (f : Int) = k
            · have b2 : ((f : Int) == (k : Int)) = true := by simpa using h2
              have HM2 : Hid (movF e k true = out) := Lib.hid (by rw [HS.out, if_pos (.inr ⟨h2, rfl⟩), HO.out])
              clear h2 hmv2 HS
              go_wp2_with fail
              go_ret2
              exact ⟨by rw [HM2.out]; rfl, hx1⟩
            · have b2 : ((f : Int) == (k : Int)) = false := by simpa using h2
              have HM2 : Hid (movF e k true = movL k true ((k : Int) + mv) (e.drop (j + 1))) := Lib.hid (by
                rw [HS.out, if_neg (by simp; omega), if_pos h3]
                congr 1; omega)
              clear h2 hmv2 HS
              go_wp2_with fail
              go_roundw
              case rel => exact ⟨j + 1, t, mv, _, by omega, by go_num, rfl, HMV.out, htn, hb1, hb2, HM2, HG2, hx1⟩
              case measure => simp [intOf]; omega
        · cases st with
          | false =>
            have HM2 : Hid (movF e k false = out - ((k : Int) - (f : Int)) + (x : Int)) := Lib.hid (by
              rw [HS.out, if_neg (by simp; omega), if_neg h3, HO.out]
              simp)
            by_cases h2 : (f : Int) = k
            · have b2 : ((f : Int) == (k : Int)) = true := by simpa using h2
              clear h2 HS
              go_wp2_with fail
              go_ret2
              exact ⟨by rw [HM2.out]; rfl, hx1⟩
            · have b2 : ((f : Int) == (k : Int)) = false := by simpa using h2
              clear h2 HS
              go_wp2_with fail
              go_ret2
              exact ⟨by rw [HM2.out]; rfl, hx1⟩
          | true =>
            by_cases h2 : (f : Int) = k
            · have b2 : ((f : Int) == (k : Int)) = true := by simpa using h2
              have HM2 : Hid (movF e k true = out) := Lib.hid (by rw [HS.out, if_pos (.inr ⟨h2, rfl⟩), HO.out])
              clear h2 HS
              go_wp2_with fail
              go_ret2
              exact ⟨by rw [HM2.out]; rfl, hx1⟩
            · have b2 : ((f : Int) == (k : Int)) = false := by simpa using h2
              have HM2 : Hid (movF e k true = out - ((k : Int) - (f : Int))) := Lib.hid (by
                rw [HS.out, if_neg (by simp; omega), if_neg h3, HO.out]
                simp)
              clear h2 HS
              go_wp2_with fail
              go_ret2
              exact ⟨by rw [HM2.out]; rfl, hx1⟩
    · obtain rfl : j = m := by omega
      have HM2 : Hid (movF e k st = out) := Lib.hid (by
        rw [HM.out, List.drop_of_length_le (by rw [hml.out]; exact Nat.le_refl _), hout]; rfl)
      clear HM HG hout
      go_wp2_with fail
      go_ret2
      exact ⟨by rw [HM2.out]; rfl, he⟩

/-- The test, behind a name. -/
def tstB (f t : Int) (i : Nat) : Bool := decide (f ≤ i) && decide ((i : Int) < t)
/-- Is the character at i taken away? -/
def goneB (e : List Spl) (i : Nat) : Bool := e.any fun s => decide (s.f ≤ i) && decide ((i : Int) < s.t)
theorem goneB_false {e : List Spl} {i : Nat} (h : goneB e i = false) : ∀ s ∈ e, ¬ (s.f ≤ i ∧ (i : Int) < s.t) := fun s hs hq => by
  unfold goneB at h
  rw [List.any_eq_false] at h
  have := h s hs
  simp at this
  omega

set_option maxHeartbeats 2000000 in
theorem testS_ok {f t : Int} {S : Option Addr} {x y i : Nat} {p : Addr} {w : World} (hp : w.cell? p = some (.int .i64 i)) :
    Calls Try.prog 14 #[.agg #[.int .i64 f, .int .i64 t, .slice S x y], .pointer (some p)] w fun e w' => e = .returned (.bool (tstB f t i)) ∧ Ext w w' := by
  have hp1 := (Ext.alloc w (.cells #[.int .i64 f, .int .i64 t, .slice S x y] 25)).cell hp
  clear hp
  by_cases h1 : f ≤ i
  · by_cases h2 : (i : Int) < t
    · have HV : Hid (tstB f t i = true) := Lib.hid (by simp [tstB, h1, h2])
      go_enter Try.func14, Try.ntmps14
      go_wp2_with fail
      go_ret
      exact ⟨by rw [HV.out]; rfl, Ext.alloc _ _⟩
    · have HV : Hid (tstB f t i = false) := Lib.hid (by simp [tstB]; omega)
      go_enter Try.func14, Try.ntmps14
      go_wp2_with fail
      go_ret
      exact ⟨by rw [HV.out]; rfl, Ext.alloc _ _⟩
  · have HV : Hid (tstB f t i = false) := Lib.hid (by simp [tstB, h1])
    go_enter Try.func14, Try.ntmps14
    go_wp2_with fail
    go_ret
    exact ⟨by rw [HV.out]; rfl, Ext.alloc _ _⟩

set_option maxRecDepth 20000 in
set_option maxHeartbeats 4000000 in
theorem indexS_ok {e : List Spl} {E : Option Addr} {m d i : Nat} {p : Addr} {w : World} (h : EditAt w E m d e) (hp : w.cell? p = some (.int .i64 i)) :
    Calls Try.prog 27 #[.slice E m d, .func (.func 14) #[] #[.pointer (some p)]] w fun e' w' => (∃ z : Int, -1 ≤ z ∧ z ≤ m ∧ e' = .returned (.int .i64 z) ∧ decide (0 ≤ z) = goneB e i) ∧ Ext w w' := by
  have hml := Lib.hid h.len
  have hmd := h.ncap
  have hdm := h.nmax
  unfold maxLen at hdm
  go_enter Try.func27, Try.ntmps27
  go_wp2_with fail
  go_loopw [8] (fun v wr => ∃ j : Nat, j ≤ m ∧ v = .int .i64 j ∧ Hid (goneB (e.take j) i = false) ∧ Ext w wr) (fun v _ => m - (intOf v).toNat)
  case atStart => exact ⟨0, by omega, rfl, rfl, Ext.refl _⟩
  case round =>
    obtain ⟨j, hj, rfl, HG, he⟩ := hrel
    by_cases hlt : j < m
    · obtain ⟨ad, S, x, y, rfl, k0, k1, k2, hx, _⟩ := h.at_ hlt
      have c0 := he.cell k0
      have c1 := he.cell k1
      have c2 := he.cell k2
      have HT := Lib.hid (testS_ok (f := (gE e j).f) (t := (gE e j).t) (S := S) (x := x) (y := y) (he.cell hp))
      have hts : e.take (j + 1) = e.take j ++ [gE e j] := by
        have := hml.out
        rw [List.take_succ_eq_append_getElem (by omega)]
        simp [gE, show j < e.length by omega]
      cases hb : tstB (gE e j).f (gE e j).t i with
      | true =>
        rw [hb] at HT
        have HR : Hid (goneB e i = true) := Lib.hid (by
          unfold goneB
          rw [List.any_eq_true]
          have := hml.out
          exact ⟨gE e j, by unfold gE; simp [show j < e.length by omega], hb⟩)
        clear k0 k1 k2 hx hts hb
        generalize (gE e j).f = f at *
        generalize (gE e j).t = t at *
        go_wp2_with fail
        refine HT.out.mono ?_
        rintro e' w1 ⟨rfl, he1⟩
        clear HT
        go_wp2_with fail
        go_ret
        exact ⟨⟨j, by omega, by omega, rfl, by rw [HR.out]; simp⟩, he.trans he1⟩
      | false =>
        rw [hb] at HT
        have HG2 : Hid (goneB (e.take (j + 1)) i = false) := Lib.hid (by
          have := HG.out
          unfold goneB at this ⊢
          rw [hts, List.any_append, this]
          have hb' : (decide ((gE e j).f ≤ i) && decide ((i : Int) < (gE e j).t)) = false := hb
          simp only [List.any_cons, List.any_nil, hb']
          rfl)
        clear k0 k1 k2 hx hts hb HG
        generalize (gE e j).f = f at *
        generalize (gE e j).t = t at *
        go_wp2_with fail
        refine HT.out.mono ?_
        rintro e' w1 ⟨rfl, he1⟩
        clear HT
        go_wp2_with fail
        go_roundw
        case rel => exact ⟨j + 1, by omega, by go_num, HG2, he.trans he1⟩
        case measure => simp [intOf]; omega
    · obtain rfl : j = m := by omega
      have HR : Hid (goneB e i = false) := Lib.hid (by
        have := HG.out
        rw [List.take_of_length_le (by rw [hml.out]; exact Nat.le_refl _)] at this
        exact this)
      go_wp2_with fail
      go_ret
      exact ⟨⟨-1, by omega, by omega, rfl, by rw [HR.out]; rfl⟩, he⟩

set_option maxHeartbeats 1000000 in
theorem containsS_ok {e : List Spl} {E : Option Addr} {m d i : Nat} {p : Addr} {w : World} (h : EditAt w E m d e) (hp : w.cell? p = some (.int .i64 i)) :
    Calls Try.prog 13 #[.slice E m d, .func (.func 14) #[] #[.pointer (some p)]] w fun e' w' => e' = .returned (.bool (goneB e i)) ∧ Ext w w' := by
  have HC := Lib.hid (indexS_ok h hp)
  go_enter Try.func13, Try.ntmps13
  go_wp2_with fail
  refine HC.out.mono ?_
  rintro e' w1 ⟨⟨z, hz1, hz2, rfl, hd⟩, he1⟩
  have HD := Lib.hid hd
  clear HC hd
  go_wp2_with fail
  go_ret
  exact ⟨ret_bool HD.out, he1⟩

set_option maxHeartbeats 2000000 in
theorem testB_ok {f t : Int} {S : Option Addr} {x y i : Nat} {p : Addr} {w : World} (hp : w.cell? p = some (.int .i64 i)) :
    Calls Try.prog 19 #[.agg #[.int .i64 f, .int .i64 t, .slice S x y], .pointer (some p)] w fun e w' => e = .returned (.bool (tstB f t i)) ∧ Ext w w' := by
  have hp1 := (Ext.alloc w (.cells #[.int .i64 f, .int .i64 t, .slice S x y] 25)).cell hp
  clear hp
  by_cases h1 : f ≤ i
  · by_cases h2 : (i : Int) < t
    · have HV : Hid (tstB f t i = true) := Lib.hid (by simp [tstB, h1, h2])
      go_enter Try.func19, Try.ntmps19
      go_wp2_with fail
      go_ret
      exact ⟨by rw [HV.out]; rfl, Ext.alloc _ _⟩
    · have HV : Hid (tstB f t i = false) := Lib.hid (by simp [tstB]; omega)
      go_enter Try.func19, Try.ntmps19
      go_wp2_with fail
      go_ret
      exact ⟨by rw [HV.out]; rfl, Ext.alloc _ _⟩
  · have HV : Hid (tstB f t i = false) := Lib.hid (by simp [tstB, h1])
    go_enter Try.func19, Try.ntmps19
    go_wp2_with fail
    go_ret
    exact ⟨by rw [HV.out]; rfl, Ext.alloc _ _⟩

set_option maxRecDepth 20000 in
set_option maxHeartbeats 4000000 in
theorem indexB_ok {e : List Spl} {E : Option Addr} {m d i : Nat} {p : Addr} {w : World} (h : EditAt w E m d e) (hp : w.cell? p = some (.int .i64 i)) :
    Calls Try.prog 27 #[.slice E m d, .func (.func 19) #[] #[.pointer (some p)]] w fun e' w' => (∃ z : Int, -1 ≤ z ∧ z ≤ m ∧ e' = .returned (.int .i64 z) ∧ decide (0 ≤ z) = goneB e i) ∧ Ext w w' := by
  have hml := Lib.hid h.len
  have hmd := h.ncap
  have hdm := h.nmax
  unfold maxLen at hdm
  go_enter Try.func27, Try.ntmps27
  go_wp2_with fail
  go_loopw [8] (fun v wr => ∃ j : Nat, j ≤ m ∧ v = .int .i64 j ∧ Hid (goneB (e.take j) i = false) ∧ Ext w wr) (fun v _ => m - (intOf v).toNat)
  case atStart => exact ⟨0, by omega, rfl, rfl, Ext.refl _⟩
  case round =>
    obtain ⟨j, hj, rfl, HG, he⟩ := hrel
    by_cases hlt : j < m
    · obtain ⟨ad, S, x, y, rfl, k0, k1, k2, hx, _⟩ := h.at_ hlt
      have c0 := he.cell k0
      have c1 := he.cell k1
      have c2 := he.cell k2
      have HT := Lib.hid (testB_ok (f := (gE e j).f) (t := (gE e j).t) (S := S) (x := x) (y := y) (he.cell hp))
      have hts : e.take (j + 1) = e.take j ++ [gE e j] := by
        have := hml.out
        rw [List.take_succ_eq_append_getElem (by omega)]
        simp [gE, show j < e.length by omega]
      cases hb : tstB (gE e j).f (gE e j).t i with
      | true =>
        rw [hb] at HT
        have HR : Hid (goneB e i = true) := Lib.hid (by
          unfold goneB
          rw [List.any_eq_true]
          have := hml.out
          exact ⟨gE e j, by unfold gE; simp [show j < e.length by omega], hb⟩)
        clear k0 k1 k2 hx hts hb
        generalize (gE e j).f = f at *
        generalize (gE e j).t = t at *
        go_wp2_with fail
        refine HT.out.mono ?_
        rintro e' w1 ⟨rfl, he1⟩
        clear HT
        go_wp2_with fail
        go_ret
        exact ⟨⟨j, by omega, by omega, rfl, by rw [HR.out]; simp⟩, he.trans he1⟩
      | false =>
        rw [hb] at HT
        have HG2 : Hid (goneB (e.take (j + 1)) i = false) := Lib.hid (by
          have := HG.out
          unfold goneB at this ⊢
          rw [hts, List.any_append, this]
          have hb' : (decide ((gE e j).f ≤ i) && decide ((i : Int) < (gE e j).t)) = false := hb
          simp only [List.any_cons, List.any_nil, hb']
          rfl)
        clear k0 k1 k2 hx hts hb HG
        generalize (gE e j).f = f at *
        generalize (gE e j).t = t at *
        go_wp2_with fail
        refine HT.out.mono ?_
        rintro e' w1 ⟨rfl, he1⟩
        clear HT
        go_wp2_with fail
        go_roundw
        case rel => exact ⟨j + 1, by omega, by go_num, HG2, he.trans he1⟩
        case measure => simp [intOf]; omega
    · obtain rfl : j = m := by omega
      have HR : Hid (goneB e i = false) := Lib.hid (by
        have := HG.out
        rw [List.take_of_length_le (by rw [hml.out]; exact Nat.le_refl _)] at this
        exact this)
      go_wp2_with fail
      go_ret
      exact ⟨⟨-1, by omega, by omega, rfl, by rw [HR.out]; rfl⟩, he⟩

set_option maxHeartbeats 1000000 in
theorem containsB_ok {e : List Spl} {E : Option Addr} {m d i : Nat} {p : Addr} {w : World} (h : EditAt w E m d e) (hp : w.cell? p = some (.int .i64 i)) :
    Calls Try.prog 13 #[.slice E m d, .func (.func 19) #[] #[.pointer (some p)]] w fun e' w' => e' = .returned (.bool (goneB e i)) ∧ Ext w w' := by
  have HC := Lib.hid (indexB_ok h hp)
  go_enter Try.func13, Try.ntmps13
  go_wp2_with fail
  refine HC.out.mono ?_
  rintro e' w1 ⟨⟨z, hz1, hz2, rfl, hd⟩, he1⟩
  have HD := Lib.hid hd
  clear HC hd
  go_wp2_with fail
  go_ret
  exact ⟨ret_bool HD.out, he1⟩
end Go.Proofs.Ytbdiiopllmhfeaa
