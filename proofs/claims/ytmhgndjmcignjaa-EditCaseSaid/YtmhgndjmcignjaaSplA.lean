/-
  The walk of splice.Apply.
-/
import Derived.Test.YtmhgndjmcignjaaSplW
import Derived.Test.YtmhgndjmcignjaaCut
import Derived.Lib.SliceRun
namespace Go.Proofs.Ytmhgndjmcignjaa
open Go.RowKit
set_option linter.unusedVariables false
set_option linter.unusedSimpArgs false

/-- The next splice begins behind this place. -/
def behind (a : Nat) (e : List Spl) : Prop := ∀ s ∈ e.head?, (a : Int) ≤ s.f
theorem behind_next {n : Int} {t : Int} {tn : Nat} {e : List Spl} (h : good n t e) (ht : t = (tn : Int)) : behind tn e := fun u hu => by
  cases e with
  | nil => cases hu
  | cons v e => cases hu; have := h.1; omega
theorem app_max {l : List Int} {e : List Spl} {n : Nat} (hl : l.length = n) (h : chkF n e = 0) : (appF l 0 e).length ≤ 4096 := by
  obtain ⟨_, _, h1, h2⟩ := chkF_zero.1 h
  have hb : ∀ s ∈ e.head?, ((0 : Nat) : Int) ≤ s.f := fun u hu => by
    cases e with
    | nil => cases hu
    | cons v e => cases hu; have := h1.1; omega
  have := app_len l e 0 (-1) (by rw [hl]; exact h1) (by omega) (by omega) hb
  have := fits_end h2
  omega

set_option maxRecDepth 20000 in
set_option maxHeartbeats 4000000 in
theorem apply_ok {e : List Spl} {l : List Int} {A E : Option Addr} {n c m d : Nat} {w : World} (hl : Ints w A n c l) (h : EditAt w E m d e) (hz : chkF n e = 0) :
    Calls Try.prog 12 #[.slice A n c, .slice E m d] w fun e' w' => ∃ B q r, e' = .returned (.tuple #[.slice B q r, .int .i64 0]) ∧ OwnI w' w.heap.size B q r (appF l 0 e) ∧ (B = none → r = 0) ∧ Ext w w' := by
  obtain ⟨i0, hi, hz0, hz1, hz2⟩ := info_parts info_int
  have HI := Lib.hid hi
  clear hi
  obtain ⟨_, hn4, hg0, _⟩ := chkF_zero.1 hz
  have hn4 : n ≤ 4096 := by omega
  have hlen := Lib.hid hl.len
  have hml := Lib.hid h.len
  have hnc := hl.ncap
  have hcm := hl.nmax
  have hmd := h.ncap
  have hdm := h.nmax
  unfold maxLen at hcm hdm
  have HM := Lib.hid (app_max hl.len hz)
  have HC := Lib.hid (check_in (N := n) h hn4)
  rw [hz] at HC
  have HG : Hid (∃ last, good n last (e.drop 0) ∧ behind 0 (e.drop 0)) := Lib.hid ⟨-1, hg0, fun u hu => by
    rw [List.drop_zero] at hu
    cases e with
    | nil => cases hu
    | cons v e => cases hu; have := hg0.1; omega⟩
  clear hz hg0
  go_enter Try.func12, Try.ntmps12
  go_wp2_with fail
  refine HC.out.mono ?_
  rintro e' w1 ⟨rfl, he1⟩
  clear HC
  go_wp2_with fail
  go_loopw [7, 8, 20] (fun o at_ i wr => ∃ (k a q d' : Nat) (B : Option Addr) (O : List Int), k ≤ m ∧ i = .int .i64 k ∧ at_ = .int .i64 a ∧ o = .slice B q d' ∧ a ≤ n ∧ OwnI wr w.heap.size B q d' O ∧ Hid (appF l 0 e = O ++ appF l a (e.drop k)) ∧ Hid (∃ last, good n last (e.drop k) ∧ behind a (e.drop k)) ∧ Ext w wr) (fun _ _ i _ => m - (intOf i).toNat)
  case atStart => exact ⟨0, 0, 0, 0, none, [], by omega, rfl, rfl, rfl, by omega, OwnI.nil _ _, Lib.hid rfl, HG, he1⟩
  case round =>
    clear HG he1
    obtain ⟨k, a, q, d', B, O, hk, rfl, rfl, rfl, ha, hown, HA, HG, he⟩ := hrel
    have hql := hown.ints.len
    by_cases hlt : k < m
    · obtain ⟨ad, S, x, y, rfl, k0, k1, k2, hx, _⟩ := h.at_ hlt
      have c0 := he.cell k0
      have c1 := he.cell k1
      have c2 := he.cell k2
      clear k0 k1 k2
      have hxy := hx.ncap
      have hym := hx.nmax
      unfold maxLen at hym
      have hde := drop_edit (e := e) (k := k) (by rw [hml.out]; exact hlt)
      obtain ⟨last, hgd, hbh⟩ := HG.out
      rw [hde] at hgd hbh
      obtain ⟨g1, g2, g3, g4, g5, g6⟩ := hgd
      have haf : (a : Int) ≤ (gE e k).f := hbh _ rfl
      obtain ⟨f, hf⟩ := Int.eq_ofNat_of_zero_le (show 0 ≤ (gE e k).f by omega)
      obtain ⟨t, ht⟩ := Int.eq_ofNat_of_zero_le (show 0 ≤ (gE e k).t by omega)
      have HG2 : Hid (∃ last, good n last (e.drop (k + 1)) ∧ behind t (e.drop (k + 1))) := Lib.hid ⟨_, g6, behind_next g6 ht⟩
      have hxl := hx.len
      have HA2 : Hid (appF l 0 e = O ++ ((l.drop a).take (f - a) ++ (gE e k).x) ++ appF l t (e.drop (k + 1))) := Lib.hid (by
        rw [HA.out, hde]
        simp only [appF, hf, ht, Int.ofNat_eq_natCast, Int.toNat_natCast, List.append_assoc])
      have hbd : q + (f - a) + x ≤ 4096 := by
        have h1 := HM.out
        have h2 := congrArg List.length HA2.out
        have h3 := take_part l (a := a) (b := f) (by omega) (by rw [hlen.out]; omega)
        simp only [List.length_append] at h2
        omega
      rw [hf] at c0
      rw [ht] at c1
      have haf2 : a ≤ f := by omega
      have hft : f ≤ t := by omega
      have htn : t ≤ n := by omega
      have hx1 := he.to_alloc (.cells #[.int .i64 f, .int .i64 t, .slice S x y] 64)
      have hown1 := Own.ext hown (Ext.alloc wr (.cells #[.int .i64 f, .int .i64 t, .slice S x y] 64))
      have hbk := Blk.new wr 64 #[.int .i64 f, .int .i64 t, .slice S x y]
      have HX := Lib.hid hx
      have HW : Hid (∀ g, (Value.slice B q d').ownBlock = some g → g < wr.heap.size) := Lib.hid (fun g hg => (Own.blk hown g hg).2)
      have hcut := run_cutA A n c a f haf2 (by omega)
      have hs1 := hx1.hsize
      clear HG HA hde hbh g1 g2 g3 g4 g5 g6 haf hf ht hx hown hxl he hql
      go_wp2_with (at_builtin; refine wpList_app rfl (.tmp 24) (.tmp 29) 22 rfl w w.heap.size 3 i0 (.int .i64 0) 1 8 Try.underlying22 HI.out hz0 hz1 hz2 rfl (by decide) B q d' _ rfl hown1 (cutA A c a) (f - a) (c - a) _ rfl ((hl.cutA haf2 (by omega)).ext hx1) ?_ ?_ ?_ hx1 (Nat.le_refl _) hs1 ?_)
      · exact (hl.cutA haf2 (by omega)).one
      · unfold maxLen; omega
      · omega
      · intro B1 d1 w2 hown2 hgr1 hor1 hx2
        have hbk2 : Blk w2 wr.heap.size 64 #[.int .i64 f, .int .i64 t, .slice S x y] := hbk.grown hgr1 (fun e => by
          have := HW.out wr.heap.size e.symm; omega)
        have hne2 : ∀ g, (Value.slice B1 (q + (f - a)) d1).ownBlock = some g → g ≠ wr.heap.size := fun g hg => by
          rcases hor1 with h1 | h1
          · rw [h1] at hg; have := HW.out g hg; omega
          · rw [h1] at hg; injection hg with hg; omega
        have HN2 := Lib.hid hne2
        have hown3 : OwnI w2 w.heap.size B1 (q + (f - a)) d1 (O ++ (l.drop a).take (f - a)) := by
          simpa [OwnI] using hown2
        have q1 := hbk2.cell 1
        have q2 := hbk2.cell 2
        simp only [List.getElem?_toArray, List.getElem?_cons_zero, List.getElem?_cons_succ] at q1 q2
        clear hown1 hown2 hgr1 hor1 hx1 hbk hs1 hne2 HW hcut
        go_wp2_with (at_builtin; refine wpList_app rfl (.tmp 31) (.tmp 33) 22 rfl w w.heap.size 3 i0 (.int .i64 0) 1 8 Try.underlying22 HI.out hz0 hz1 hz2 rfl (by decide) B1 (q + (f - a)) d1 _ rfl hown3 S x y _ rfl (HX.out.ext hx2) ?_ ?_ ?_ hx2 (Nat.le_refl _) hx2.hsize ?_)
        · exact HX.out.one
        · unfold maxLen; omega
        · omega
        · intro B2 d2 w3 hown4 hgr2 _ hx3
          have hbk3 : Blk w3 wr.heap.size 64 #[.int .i64 f, .int .i64 t, .slice S x y] := hbk2.grown hgr2 (fun e => HN2.out _ e.symm rfl)
          have hown5 : OwnI w3 w.heap.size B2 (q + (f - a) + x) d2 (O ++ ((l.drop a).take (f - a) ++ (gE e k).x)) := by
            rw [← List.append_assoc]; simpa [OwnI] using hown4
          have q3 := hbk3.cell 1
          simp only [List.getElem?_toArray, List.getElem?_cons_zero, List.getElem?_cons_succ] at q3
          clear hown3 hown4 hgr2 hbk2 hx2 q1 q2
          go_wp2_with fail
          go_roundw
          case rel => exact ⟨k + 1, t, q + (f - a) + x, d2, B2, _, by omega, by go_num, rfl, rfl, htn, hown5, HA2, HG2, hx3⟩
          case measure => simp [intOf]; omega
    · obtain rfl : k = m := by omega
      rw [List.drop_of_length_le (by rw [hml.out]; exact Nat.le_refl _)] at HA
      have HA2 : Hid (appF l 0 e = O ++ l.drop a) := HA
      have hbd : q + (n - a) ≤ 4096 := by
        have h1 := HM.out
        have h2 := congrArg List.length HA2.out
        simp only [List.length_append, List.length_drop] at h2
        have := hlen.out
        omega
      have hcut := run_tailA A n c a ha
      have hs1 := he.hsize
      clear HA HG hql
      go_wp2_with (at_builtin; refine wpList_app rfl (.tmp 38) (.tmp 41) 22 rfl w w.heap.size 3 i0 (.int .i64 0) 1 8 Try.underlying22 HI.out hz0 hz1 hz2 rfl (by decide) B q d' _ rfl hown (cutA A c a) (n - a) (c - a) _ rfl ((hl.tailA ha).ext he) ?_ ?_ ?_ he (Nat.le_refl _) hs1 ?_)
      · exact (hl.tailA ha).one
      · unfold maxLen; omega
      · omega
      · intro B1 d1 w2 hown2 _ _ hx2
        have hown3 : OwnI w2 w.heap.size B1 (q + (n - a)) d1 (appF l 0 e) := by
          rw [HA2.out]; simpa [OwnI] using hown2
        clear hown hown2 he
        go_wp2_with fail
        go_ret2
        refine ⟨B1, _, d1, rfl, hown3, ?_, hx2⟩
        rintro rfl
        rcases hown3.2 with ⟨hv, _⟩ | ⟨g, cap, cur, hv, _⟩
        · injection hv
        · injection hv with h1; cases h1

set_option maxRecDepth 20000 in
set_option maxHeartbeats 1000000 in
theorem check_out {e : List Spl} {A : Option Addr} {n c N : Nat} {w : World} (hN : 4096 < N) (hNm : N ≤ maxLen) :
    Calls Try.prog 24 #[.int .i64 N, .slice A n c] w fun e' w' => e' = .returned (.int .i64 (chkF N e)) ∧ Ext w w' := by
  unfold maxLen at hNm
  have HF : Hid (chkF N e = 1) := Lib.hid (by unfold chkF; rw [if_pos (by omega)])
  go_enter Try.func24, Try.ntmps24
  go_wp2_with fail
  go_ret
  exact ⟨by rw [HF.out]; rfl, Ext.refl _⟩
theorem check_ok {e : List Spl} {A : Option Addr} {n c N : Nat} {w : World} (h : EditAt w A n c e) (hNm : N ≤ maxLen) :
    Calls Try.prog 24 #[.int .i64 N, .slice A n c] w fun e' w' => e' = .returned (.int .i64 (chkF N e)) ∧ Ext w w' := by
  rcases Nat.lt_or_ge 4096 N with h1 | h1
  · exact check_out h1 hNm
  · exact check_in h h1

set_option maxRecDepth 20000 in
set_option maxHeartbeats 1000000 in
theorem apply_bad {e : List Spl} {l : List Int} {A E : Option Addr} {n c m d : Nat} {w : World} (hl : Ints w A n c l) (h : EditAt w E m d e) (hz : chkF n e ≠ 0) :
    Calls Try.prog 12 #[.slice A n c, .slice E m d] w fun e' w' => e' = .returned (.tuple #[.slice none 0 0, .int .i64 (chkF n e)]) ∧ Ext w w' := by
  have hcm := hl.nmax
  have hnc := hl.ncap
  have HC := Lib.hid (check_ok (N := n) h (by omega))
  generalize chkF n e = z at *
  have b1 : (z != 0) = true := by simpa using hz
  unfold maxLen at hcm
  go_enter Try.func12, Try.ntmps12
  go_wp2_with fail
  refine HC.out.mono ?_
  rintro e' w1 ⟨rfl, he1⟩
  clear HC
  go_wp2_with fail
  go_ret2
  exact ⟨rfl, he1⟩
end Go.Proofs.Ytmhgndjmcignjaa
