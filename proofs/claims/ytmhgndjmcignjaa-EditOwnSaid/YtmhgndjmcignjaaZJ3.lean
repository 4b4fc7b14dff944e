/-
  The walk of splice.Apply.
-/
import Derived.Test.YtmhgndjmcignjaaZSplW
import Derived.Test.YtmhgndjmcignjaaZCut
import Derived.Lib.SliceRun
import Derived.Test.YtmhgndjmcignjaaZClone
import Derived.Deep.RegionHeld3
import Derived.Test.YtmhgndjmcignjaaZJ1

namespace Go.Proofs.Ytmhgndjmcignjaa
open Go.RowKit
set_option linter.unusedVariables false
set_option linter.unusedSimpArgs false

/-- The next splice begins behind this place. -/
def behind (a : Nat) (e : List Spl) : Prop := ∀ s ∈ e.head?, (a : Int) ≤ s.f
theorem behind_next {n : Int} {t : Int} {tn : Nat} {e : List Spl} (h : good n t e) (ht : t = (tn : Int)) : behind tn e := fun u hu => by
  cases e with
  | nil => cases hu
  | cons v e => cases hu; have := h.1; omega
theorem app_max {l : List Int} {e : List Spl} {n : Nat} (hl : l.length = n) (h : chkF n e = 0) : (appF l 0 e).length ≤ 4096 := by
  obtain ⟨_, _, h1, h2⟩ := chkF_zero.1 h
  have hb : ∀ s ∈ e.head?, ((0 : Nat) : Int) ≤ s.f := fun u hu => by
    cases e with
    | nil => cases hu
    | cons v e => cases hu; have := h1.1; omega
  have := app_len l e 0 (-1) (by rw [hl]; exact h1) (by omega) (by omega) hb
  have := fits_end h2
  omega

set_option maxRecDepth 20000 in
set_option maxHeartbeats 4000000 in
theorem apply_ok {e : List Spl} {l : List Int} {A E : Option Addr} {n c m d : Nat} {w : World} (hl : Ints w A n c l) (h : EditAt w E m d e) (hz : chkF n e = 0) :
    Calls Try.prog 12 #[.slice A n c, .slice E m d] w fun e' w' => ∃ B q r, e' = .returned (.tuple #[.slice B q r, .int .i64 0]) ∧ OwnI w' w.heap.size B q r (appF l 0 e) ∧ (B = none → r = 0) ∧ Ext w w' := by
  obtain ⟨i0, hi, hz0, hz1, hz2⟩ := info_parts info_int
  have HI := Lib.hid hi
  clear hi
  obtain ⟨_, hn4, hg0, _⟩ := chkF_zero.1 hz
  have hn4 : n ≤ 4096 := by omega
  have hlen := Lib.hid hl.len
  have hml := Lib.hid h.len
  have hnc := hl.ncap
  have hcm := hl.nmax
  have hmd := h.ncap
  have hdm := h.nmax
  unfold maxLen at hcm hdm
  have HM := Lib.hid (app_max hl.len hz)
  have HC := Lib.hid (check_in (N := n) h hn4)
  rw [hz] at HC
  have HG : Hid (∃ last, good n last (e.drop 0) ∧ behind 0 (e.drop 0)) := Lib.hid ⟨-1, hg0, fun u hu => by
    rw [List.drop_zero] at hu
    cases e with
    | nil => cases hu
    | cons v e => cases hu; have := hg0.1; omega⟩
  clear hz hg0
  go_enter Try.func12, Try.ntmps12
  go_wp2_with fail
  refine HC.out.mono ?_
  rintro e' w1 ⟨rfl, he1⟩
  clear HC
  go_wp2_with fail
  go_loopw [7, 8, 20] (fun o at_ i wr => ∃ (k a q d' : Nat) (B : Option Addr) (O : List Int), k ≤ m ∧ i = .int .i64 k ∧ at_ = .int .i64 a ∧ o = .slice B q d' ∧ a ≤ n ∧ OwnI wr w.heap.size B q d' O ∧ Hid (appF l 0 e = O ++ appF l a (e.drop k)) ∧ Hid (∃ last, good n last (e.drop k) ∧ behind a (e.drop k)) ∧ Ext w wr) (fun _ _ i _ => m - (intOf i).toNat)
  case atStart => exact ⟨0, 0, 0, 0, none, [], by omega, rfl, rfl, rfl, by omega, OwnI.nil _ _, Lib.hid rfl, HG, he1⟩
  case round =>
    clear HG he1
    obtain ⟨k, a, q, d', B, O, hk, rfl, rfl, rfl, ha, hown, HA, HG, he⟩ := hrel
    have hql := hown.ints.len
    by_cases hlt : k < m
    · obtain ⟨ad, S, x, y, rfl, k0, k1, k2, hx, _⟩ := h.at_ hlt
      have c0 := he.cell k0
      have c1 := he.cell k1
      have c2 := he.cell k2
      clear k0 k1 k2
      have hxy := hx.ncap
      have hym := hx.nmax
      unfold maxLen at hym
      have hde := drop_edit (e := e) (k := k) (by rw [hml.out]; exact hlt)
      obtain ⟨last, hgd, hbh⟩ := HG.out
      rw [hde] at hgd hbh
      obtain ⟨g1, g2, g3, g4, g5, g6⟩ := hgd
      have haf : (a : Int) ≤ (gE e k).f := hbh _ rfl
      obtain ⟨f, hf⟩ := Int.eq_ofNat_of_zero_le (show 0 ≤ (gE e k).f by omega)
      obtain ⟨t, ht⟩ := Int.eq_ofNat_of_zero_le (show 0 ≤ (gE e k).t by omega)
      have HG2 : Hid (∃ last, good n last (e.drop (k + 1)) ∧ behind t (e.drop (k + 1))) := Lib.hid ⟨_, g6, behind_next g6 ht⟩
      have hxl := hx.len
      have HA2 : Hid (appF l 0 e = O ++ ((l.drop a).take (f - a) ++ (gE e k).x) ++ appF l t (e.drop (k + 1))) := Lib.hid (by
        rw [HA.out, hde]
        simp only [appF, hf, ht, Int.ofNat_eq_natCast, Int.toNat_natCast, List.append_assoc])
      have hbd : q + (f - a) + x ≤ 4096 := by
        have h1 := HM.out
        have h2 := congrArg List.length HA2.out
        have h3 := take_part l (a := a) (b := f) (by omega) (by rw [hlen.out]; omega)
        simp only [List.length_append] at h2
        omega
      rw [hf] at c0
      rw [ht] at c1
      have haf2 : a ≤ f := by omega
      have hft : f ≤ t := by omega
      have htn : t ≤ n := by omega
      have hx1 := he.to_alloc (.cells #[.int .i64 f, .int .i64 t, .slice S x y] 64)
      have hown1 := Own.ext hown (Ext.alloc wr (.cells #[.int .i64 f, .int .i64 t, .slice S x y] 64))
      have hbk := Blk.new wr 64 #[.int .i64 f, .int .i64 t, .slice S x y]
      have HX := Lib.hid hx
      have HW : Hid (∀ g, (Value.slice B q d').ownBlock = some g → g < wr.heap.size) := Lib.hid (fun g hg => (Own.blk hown g hg).2)
      have hcut := run_cutA A n c a f haf2 (by omega)
      have hs1 := hx1.hsize
      clear HG HA hde hbh g1 g2 g3 g4 g5 g6 haf hf ht hx hown hxl he hql
      go_wp2_with (at_builtin; refine wpList_app rfl (.tmp 24) (.tmp 29) 22 rfl w w.heap.size 3 i0 (.int .i64 0) 1 8 Try.underlying22 HI.out hz0 hz1 hz2 rfl (by decide) B q d' _ rfl hown1 (cutA A c a) (f - a) (c - a) _ rfl ((hl.cutA haf2 (by omega)).ext hx1) ?_ ?_ ?_ hx1 (Nat.le_refl _) hs1 ?_)
      · exact (hl.cutA haf2 (by omega)).one
      · unfold maxLen; omega
      · omega
      · intro B1 d1 w2 hown2 hgr1 hor1 hx2
        have hbk2 : Blk w2 wr.heap.size 64 #[.int .i64 f, .int .i64 t, .slice S x y] := hbk.grown hgr1 (fun e => by
          have := HW.out wr.heap.size e.symm; omega)
        have hne2 : ∀ g, (Value.slice B1 (q + (f - a)) d1).ownBlock = some g → g ≠ wr.heap.size := fun g hg => by
          rcases hor1 with h1 | h1
          · rw [h1] at hg; have := HW.out g hg; omega
          · rw [h1] at hg; injection hg with hg; omega
        have HN2 := Lib.hid hne2
        have hown3 : OwnI w2 w.heap.size B1 (q + (f - a)) d1 (O ++ (l.drop a).take (f - a)) := by
          simpa [OwnI] using hown2
        have q1 := hbk2.cell 1
        have q2 := hbk2.cell 2
        simp only [List.getElem?_toArray, List.getElem?_cons_zero, List.getElem?_cons_succ] at q1 q2
        clear hown1 hown2 hgr1 hor1 hx1 hbk hs1 hne2 HW hcut
        go_wp2_with (at_builtin; refine wpList_app rfl (.tmp 31) (.tmp 33) 22 rfl w w.heap.size 3 i0 (.int .i64 0) 1 8 Try.underlying22 HI.out hz0 hz1 hz2 rfl (by decide) B1 (q + (f - a)) d1 _ rfl hown3 S x y _ rfl (HX.out.ext hx2) ?_ ?_ ?_ hx2 (Nat.le_refl _) hx2.hsize ?_)
        · exact HX.out.one
        · unfold maxLen; omega
        · omega
        · intro B2 d2 w3 hown4 hgr2 _ hx3
          have hbk3 : Blk w3 wr.heap.size 64 #[.int .i64 f, .int .i64 t, .slice S x y] := hbk2.grown hgr2 (fun e => HN2.out _ e.symm rfl)
          have hown5 : OwnI w3 w.heap.size B2 (q + (f - a) + x) d2 (O ++ ((l.drop a).take (f - a) ++ (gE e k).x)) := by
            rw [← List.append_assoc]; simpa [OwnI] using hown4
          have q3 := hbk3.cell 1
          simp only [List.getElem?_toArray, List.getElem?_cons_zero, List.getElem?_cons_succ] at q3
          clear hown3 hown4 hgr2 hbk2 hx2 q1 q2
          go_wp2_with fail
          go_roundw
          case rel => exact ⟨k + 1, t, q + (f - a) + x, d2, B2, _, by omega, by go_num, rfl, rfl, htn, hown5, HA2, HG2, hx3⟩
          case measure => simp [intOf]; omega
    · obtain rfl : k = m := by omega
      rw [List.drop_of_length_le (by rw [hml.out]; exact Nat.le_refl _)] at HA
      have HA2 : Hid (appF l 0 e = O ++ l.drop a) := HA
      have hbd : q + (n - a) ≤ 4096 := by
        have h1 := HM.out
        have h2 := congrArg List.length HA2.out
        simp only [List.length_append, List.length_drop] at h2
        have := hlen.out
        omega
      have hcut := run_tailA A n c a ha
      have hs1 := he.hsize
      clear HA HG hql
      go_wp2_with (at_builtin; refine wpList_app rfl (.tmp 38) (.tmp 41) 22 rfl w w.heap.size 3 i0 (.int .i64 0) 1 8 Try.underlying22 HI.out hz0 hz1 hz2 rfl (by decide) B q d' _ rfl hown (cutA A c a) (n - a) (c - a) _ rfl ((hl.tailA ha).ext he) ?_ ?_ ?_ he (Nat.le_refl _) hs1 ?_)
      · exact (hl.tailA ha).one
      · unfold maxLen; omega
      · omega
      · intro B1 d1 w2 hown2 _ _ hx2
        have hown3 : OwnI w2 w.heap.size B1 (q + (n - a)) d1 (appF l 0 e) := by
          rw [HA2.out]; simpa [OwnI] using hown2
        clear hown hown2 he
        go_wp2_with fail
        go_ret2
        refine ⟨B1, _, d1, rfl, hown3, ?_, hx2⟩
        rintro rfl
        rcases hown3.2 with ⟨hv, _⟩ | ⟨g, cap, cur, hv, _⟩
        · injection hv
        · injection hv with h1; cases h1

set_option maxRecDepth 20000 in
set_option maxHeartbeats 1000000 in
theorem check_out {e : List Spl} {A : Option Addr} {n c N : Nat} {w : World} (hN : 4096 < N) (hNm : N ≤ maxLen) :
    Calls Try.prog 24 #[.int .i64 N, .slice A n c] w fun e' w' => e' = .returned (.int .i64 (chkF N e)) ∧ Ext w w' := by
  unfold maxLen at hNm
  have HF : Hid (chkF N e = 1) := Lib.hid (by unfold chkF; rw [if_pos (by omega)])
  go_enter Try.func24, Try.ntmps24
  go_wp2_with fail
  go_ret
  exact ⟨by rw [HF.out]; rfl, Ext.refl _⟩
theorem check_ok {e : List Spl} {A : Option Addr} {n c N : Nat} {w : World} (h : EditAt w A n c e) (hNm : N ≤ maxLen) :
    Calls Try.prog 24 #[.int .i64 N, .slice A n c] w fun e' w' => e' = .returned (.int .i64 (chkF N e)) ∧ Ext w w' := by
  rcases Nat.lt_or_ge 4096 N with h1 | h1
  · exact check_out h1 hNm
  · exact check_in h h1

set_option maxRecDepth 20000 in
set_option maxHeartbeats 1000000 in
theorem apply_bad {e : List Spl} {l : List Int} {A E : Option Addr} {n c m d : Nat} {w : World} (hl : Ints w A n c l) (h : EditAt w E m d e) (hz : chkF n e ≠ 0) :
    Calls Try.prog 12 #[.slice A n c, .slice E m d] w fun e' w' => e' = .returned (.tuple #[.slice none 0 0, .int .i64 (chkF n e)]) ∧ Ext w w' := by
  have hcm := hl.nmax
  have hnc := hl.ncap
  have HC := Lib.hid (check_ok (N := n) h (by omega))
  generalize chkF n e = z at *
  have b1 : (z != 0) = true := by simpa using hz
  unfold maxLen at hcm
  go_enter Try.func12, Try.ntmps12
  go_wp2_with fail
  refine HC.out.mono ?_
  rintro e' w1 ⟨rfl, he1⟩
  clear HC
  go_wp2_with fail
  go_ret2
  exact ⟨rfl, he1⟩
end Go.Proofs.Ytmhgndjmcignjaa

namespace Go.Proofs.Ytmhgndjmcignjaa
open Go.RowKit
set_option linter.unusedVariables false
set_option linter.unusedSimpArgs false

theorem info_splice : (Try.prog.info? 64).map (fun i => (i.zero, i.size, i.bytes)) = some (some (.agg #[.int .i64 0, .int .i64 0, .slice none 0 0]), 3, 40) := by kernel_rfl

/-- Splices of the call's own, whose texts lie in rows of the call's own, in no such block as the row's. -/
def EditsO (w : World) (base : Nat) (row : Option Nat) (xs : List Value) (e : List Spl) : Prop :=
  xs.length = e.length * 3 ∧ ∀ i, i < e.length → ∃ B m d, xs[i * 3]? = some (.int .i64 (gE e i).f) ∧ xs[i * 3 + 1]? = some (.int .i64 (gE e i).t) ∧ xs[i * 3 + 2]? = some (.slice B m d) ∧
    OwnI w base B m d (gE e i).x ∧ (B = none → d = 0) ∧ ((Value.slice B m d).ownBlock = none ∨ (Value.slice B m d).ownBlock ≠ row)
theorem EditsO.edits {w : World} {base : Nat} {row : Option Nat} {xs : List Value} {e : List Spl} (h : EditsO w base row xs e) : Edits w xs e :=
  ⟨h.1, fun i hi => let ⟨B, m, d, h1, h2, h3, h4, h5, _⟩ := h.2 i hi; ⟨B, m, d, h1, h2, h3, h4.ints, h5⟩⟩
theorem EditsO.ext {w w' : World} {base : Nat} {row : Option Nat} {xs : List Value} {e : List Spl} (h : EditsO w base row xs e) (he : Ext w w') : EditsO w' base row xs e :=
  ⟨h.1, fun i hi => let ⟨B, m, d, h1, h2, h3, h4, h5, h6⟩ := h.2 i hi; ⟨B, m, d, h1, h2, h3, h4.ext he, h5, h6⟩⟩
theorem EditsO.grown {w w' : World} {base : Nat} {row row' : Option Nat} {xs : List Value} {e : List Spl} (h : EditsO w base row xs e) (hg : w.grownBy w' row) (hr : row' = row ∨ ∃ g, w.heap.size ≤ g ∧ row' = some g) : EditsO w' base row' xs e :=
  ⟨h.1, fun i hi => by
    obtain ⟨B, m, d, h1, h2, h3, h4, h5, h6⟩ := h.2 i hi
    refine ⟨B, m, d, h1, h2, h3, Own.kept h4 hg h6, h5, ?_⟩
    rcases hr with rfl | ⟨g, hgs, rfl⟩
    · exact h6
    · cases hb : (Value.slice B m d).ownBlock with
      | none => exact .inl rfl
      | some g' =>
        have := (Own.blk h4 g' hb).2
        exact .inr (fun e => by injection e with e; omega)⟩
theorem EditsO.nil (w : World) (base : Nat) (row : Option Nat) : EditsO w base row [] [] := ⟨rfl, fun i hi => absurd hi (by simp)⟩
/-- An edit in rows of the call's own. -/
def EdOwn (w : World) (base : Nat) (v : Value) (e : List Spl) : Prop := ∃ O k c xs row, v = .slice O k c ∧ Own w base 64 3 O k c xs ∧ EditsO w base row xs e
theorem EdOwn.nil (w : World) (base : Nat) : EdOwn w base (.slice none 0 0) [] := ⟨none, 0, 0, [], none, rfl, World.ownsRow_nil _ _ _ _, EditsO.nil _ _ _⟩
theorem EdOwn.ext {w w' : World} {base : Nat} {v : Value} {e : List Spl} (h : EdOwn w base v e) (he : Ext w w') : EdOwn w' base v e :=
  let ⟨O, k, c, xs, row, h1, h2, h3⟩ := h; ⟨O, k, c, xs, row, h1, Own.ext h2 he, h3.ext he⟩
theorem EdOwn.at_ {w : World} {base : Nat} {v : Value} {e : List Spl} (h : EdOwn w base v e) : ∃ O k c, v = .slice O k c ∧ EditAt w O k c e :=
  let ⟨O, k, c, xs, row, h1, h2, h3⟩ := h; ⟨O, k, c, h1, xs, h2.rd, h3.edits⟩
theorem EdOwn.lower {w : World} {base base' : Nat} {v : Value} {e : List Spl} (h : EdOwn w base v e) (hb : base' ≤ base) : EdOwn w base' v e :=
  let ⟨O, k, c, xs, row, h1, h2, h3⟩ := h; ⟨O, k, c, xs, row, h1, Own.lower h2 hb, h3.1, fun i hi => let ⟨B, m, d, k1, k2, k3, k4, k5, k6⟩ := h3.2 i hi; ⟨B, m, d, k1, k2, k3, Own.lower k4 hb, k5, k6⟩⟩
/-- A block below has turned. -/
theorem EdOwn.kept {w w' : World} {base : Nat} {v : Value} {e : List Spl} (h : EdOwn w base v e) {g : Option Nat} (hg : w.grownBy w' g) (hb : ∀ k, g = some k → k < base) : EdOwn w' base v e := by
  obtain ⟨O, k, c, xs, row, h1, h2, h3⟩ := h
  have key : ∀ {e' z n' c' : Nat} {A : Option Addr} {ys : List Value}, Own w base e' z A n' c' ys → Own w' base e' z A n' c' ys := fun ho => Own.kept ho hg (by
    cases hq : (Value.slice _ _ _).ownBlock with
    | none => exact .inl rfl
    | some q => exact .inr (fun e => by have h4 := hb q e.symm; have h5 := (Own.blk ho q hq).1; omega))
  exact ⟨O, k, c, xs, row, h1, key h2, h3.1, fun i hi => let ⟨B, m, d, k1, k2, k3, k4, k5, k6⟩ := h3.2 i hi; ⟨B, m, d, k1, k2, k3, key k4, k5, k6⟩⟩
theorem gE_left {e : List Spl} {s : Spl} {i : Nat} (h : i < e.length) : gE (e ++ [s]) i = gE e i := by
  unfold gE; rw [List.getElem?_append_left h]
theorem gE_last {e : List Spl} {s : Spl} : gE (e ++ [s]) e.length = s := by
  unfold gE; simp
theorem EditsO.snoc {w : World} {base : Nat} {row : Option Nat} {xs : List Value} {e : List Spl} (h : EditsO w base row xs e) {s : Spl} {B : Option Addr} {m d : Nat} (ho : OwnI w base B m d s.x) (hn : B = none → d = 0)
    (hr : (Value.slice B m d).ownBlock = none ∨ (Value.slice B m d).ownBlock ≠ row) : EditsO w base row (xs ++ [.int .i64 s.f, .int .i64 s.t, .slice B m d]) (e ++ [s]) := by
  obtain ⟨h1, h2⟩ := h
  refine ⟨by simp; omega, fun i hi => ?_⟩
  rw [List.length_append] at hi
  rcases Nat.lt_or_ge i e.length with hlt | hge
  · obtain ⟨B', m', d', k1, k2, k3, k4, k5, k6⟩ := h2 i hlt
    rw [gE_left hlt]
    refine ⟨B', m', d', ?_, ?_, ?_, k4, k5, k6⟩
    · rw [List.getElem?_append_left (by omega)]; exact k1
    · rw [List.getElem?_append_left (by omega)]; exact k2
    · rw [List.getElem?_append_left (by omega)]; exact k3
  · obtain rfl : i = e.length := by simp at hi; omega
    rw [gE_last]
    refine ⟨B, m, d, ?_, ?_, ?_, ho, hn, hr⟩
    · rw [List.getElem?_append_right (by omega), h1, Nat.sub_self]; rfl
    · rw [List.getElem?_append_right (by omega), h1, show e.length * 3 + 1 - e.length * 3 = 1 by omega]; rfl
    · rw [List.getElem?_append_right (by omega), h1, show e.length * 3 + 2 - e.length * 3 = 2 by omega]; rfl

theorem good_len {n : Int} : ∀ {e : List Spl} {last : Int}, good n last e → last ≤ n → (e.length : Int) ≤ n - last
  | [], last, _, h => by simp only [List.length_nil]; omega
  | s :: e, last, ⟨g1, g2, g3, g4, g5, g6⟩, h => by
    have := good_len g6 g3
    simp only [List.length_cons]; omega
theorem cells3_ext {w w' : World} {g : Nat} {u v s : Value} (he : Ext w w') (h : w.cell? ⟨g, 0, none⟩ = some u ∧ w.cell? ⟨g, 1, none⟩ = some v ∧ w.cell? ⟨g, 2, none⟩ = some s) :
    w'.cell? ⟨g, 0, none⟩ = some u ∧ w'.cell? ⟨g, 1, none⟩ = some v ∧ w'.cell? ⟨g, 2, none⟩ = some s := ⟨he.cell h.1, he.cell h.2.1, he.cell h.2.2⟩
theorem blk_cells3 {w : World} {g t : Nat} {u v s : Value} (h : Blk w g t #[u, v, s]) : w.cell? ⟨g, 0, none⟩ = some u ∧ w.cell? ⟨g, 1, none⟩ = some v ∧ w.cell? ⟨g, 2, none⟩ = some s := ⟨h.cell 0, h.cell 1, h.cell 2⟩
theorem one3 {p r : Int} {C : Option Addr} {m d : Nat} : ∀ u ∈ (#[.int .i64 p, .int .i64 r, .slice C m d] : Array Value).toList, u.oneCell' = true := by
  intro u hu
  simp at hu
  rcases hu with rfl | rfl | rfl <;> rfl
/-- 'append(own row, one new element)', in a region that draws its order. -/
theorem step_push {P : Program} {ops : Array Oper} {o : Oper} {a : Act} {K : Act → World → Prop} {Q : Exit → Act → World → Prop} {E : Prop} {w1 : World} (hgd : o.guard = none) (s x : Operand) (t : TypeId)
    (ho : o.op = .call { callee := .builtin .append, args := #[s, x], argTypes := #[t, t] })
    (w0 : World) (base e : Nat) (i : TypeInfo) (zv : Value) (z bytes : Nat) (ht : P.underlying t = some (.slice e)) (hi : P.info? e = some i) (hz : i.zero = some zv)
    (hsize : i.size = z) (hby : i.bytes = bytes) (hzs : zv.cells.size = z) (hsz : 0 < z)
    (A : Option Addr) (n c : Nat) (xs : List Value) (hs : a.eval s = .slice A n c) (hown : Own w1 base e z A n c xs)
    (us : Array Value) (hu : us.size = z) (h1 : ∀ u ∈ us.toList, u.oneCell' = true) (hx : a.eval x = .slice (some ⟨w1.heap.size, 0, none⟩) 1 1)
    (h63 : n + 1 ≤ maxLen) (hbytes : (n + 1) * bytes ≤ 140737488355328) (he : Ext w0 w1) (hb : w0.heap.size ≤ base) (hbase : base ≤ w1.heap.size)
    (h : ∀ A' c' w', Own w' base e z A' (n + 1) c' (xs ++ us.toList) → w1.grownBy w' (Value.slice A n c).ownBlock → ((Value.slice A' (n + 1) c').ownBlock = (Value.slice A n c).ownBlock ∨ ∃ g, w1.heap.size ≤ g ∧ (Value.slice A' (n + 1) c').ownBlock = some g) → Ext w0 w' →
      K (a.put o.dst (.slice A' (n + 1) c')) w') : if Region.wanted o (yielded ops a.tmps) = true then Oper.wp P o a (w1.alloc (.cells us e)) K Q else E := by
  have hw : Region.wanted o (yielded ops a.tmps) = true := by simp [Region.wanted, hgd]
  rw [if_pos hw]
  have key : wpList P #[] Q [o] a (w1.alloc (.cells us e)) = wpList P #[] Q [o] a (w1.alloc (.cells us e)) := rfl
  clear key
  have hr : Rd (w1.alloc (.cells us e)) z (some ⟨w1.heap.size, 0, none⟩) 1 1 us.toList := by
    refine ⟨by simpa using hu, Nat.le_refl _, by unfold maxLen; omega, fun _ => ⟨_, rfl, fun j u hj => ?_⟩⟩
    have e1 : (⟨w1.heap.size, 0, none⟩ : Addr).add j = ⟨w1.heap.size, j, none⟩ := by simp [Addr.add_lit]
    rw [e1, (Blk.new w1 e us).cell j]
    simpa using hj
  have hc : ∀ j u, us.toList[j]? = some u → (w1.alloc (.cells us e)).cell? ((⟨w1.heap.size, 0, none⟩ : Addr).add j) = some u := by
    obtain ⟨ad', e1, hc⟩ := hr.at_ (k := 0) (by omega)
    injection e1 with e1
    subst e1
    exact hc
  have hown' := hown.ext (Ext.alloc w1 (.cells us e))
  obtain ⟨v', w', hrun, h2, h3, _, h5⟩ := run_append_own_at (P := P) (w1.alloc (.cells us e)) base t o.type e i zv z bytes ht hi hz hsize hby hzs hsz (.slice A n c) n xs hown' ⟨w1.heap.size, 0, none⟩ 1 1 us.toList hr.len hc h1 h63 hbytes (Nat.le_trans hbase (Ext.alloc w1 (.cells us e)).hsize)
  have hv : ∃ A' c', v' = .slice A' (n + 1) c' := by
    rcases h2.2 with ⟨rfl, h0'⟩ | ⟨g, cap, cur, rfl, _⟩
    · exact ⟨none, 0, by rw [h0']⟩
    · exact ⟨_, _, rfl⟩
  obtain ⟨A', c', rfl⟩ := hv
  unfold Oper.wp execOp
  simp only [ho, resolve, invoke, builtin, Sem.run_bind, Sem.run_pure, Result.andThen_ok, List.map_toArray, List.map_cons, List.map_nil, hs, hx, hrun]
  refine h A' c' w' h2 ⟨h3.os, h3.tape, h3.output, Nat.le_trans (Ext.alloc _ _).hsize h3.size, fun k hk hne => (h3.block k (Nat.lt_of_lt_of_le hk (Ext.alloc _ _).hsize) hne).trans (Below.heap_alloc _ _ _ hk)⟩ ?_ (Ext.grown (he.to_alloc _) h3 hown' hb)
  rcases h5 with k3 | k3
  · exact .inl k3
  · exact .inr ⟨_, (Ext.alloc _ _).hsize, k3⟩

end Go.Proofs.Ytmhgndjmcignjaa

namespace Go.Proofs.Ytmhgndjmcignjaa
open Go.RowKit
set_option linter.unusedVariables false
set_option linter.unusedSimpArgs false

theorem equal_same {A B : Option Addr} {n c m d : Nat} {l : List Int} {w : World} (hl : Ints w A n c l) (hl' : Ints w B m d l) :
    Calls Try.prog 10 #[.slice A n c, .slice B m d] w fun e w' => e = .returned (.bool true) ∧ Ext w w' :=
  (equal_ext hl hl').mono fun e w' ⟨h1, h2⟩ => ⟨by rw [h1, eqB_true.2 rfl], h2⟩

set_option maxRecDepth 20000 in
set_option maxHeartbeats 2000000 in
theorem same1_ok {f t : Int} {A B : Option Addr} {n c m d : Nat} {x : List Int} {w : World} (hl : Ints w A n c x) (hl' : Ints w B m d x) :
    Calls Try.prog 27 #[.agg #[.int .i64 f, .int .i64 t, .slice A n c], .agg #[.int .i64 f, .int .i64 t, .slice B m d]] w fun e w' => e = .returned (.bool true) ∧ Ext w w' := by
  have hx : Ext w ((w.alloc (.cells #[.int .i64 f, .int .i64 t, .slice A n c] 64)).alloc (.cells #[.int .i64 f, .int .i64 t, .slice B m d] 64)) := (Ext.alloc _ _).to_alloc _
  have HC := Lib.hid (equal_same (hl.ext hx) (hl'.ext hx))
  have b1 : (f == f) = true := by simp
  have b2 : (t == t) = true := by simp
  clear hl hl'
  go_enter Try.func27, Try.ntmps27
  go_wp2_with fail
  refine HC.out.mono ?_
  rintro e w1 ⟨rfl, he1⟩
  go_wp2_with fail
  go_ret
  exact ⟨rfl, hx.trans he1⟩

set_option maxRecDepth 20000 in
set_option maxHeartbeats 4000000 in
theorem equalFunc_ok {A B : Option Addr} {n c d : Nat} {e : List Spl} {w : World} (h : EditAt w A n c e) (h' : EditAt w B n d e) :
    Calls Try.prog 26 #[.slice A n c, .slice B n d, .func (.func 27) #[] #[]] w fun e w' => e = .returned (.bool true) ∧ Ext w w' := by
  have hnc := h.ncap
  have hcm := h.nmax
  have hnd := h'.ncap
  have hdm := h'.nmax
  unfold maxLen at hcm hdm
  have hne : ((n : Int) != (n : Int)) = false := by simp
  go_enter Try.func26, Try.ntmps26
  go_wp2_with fail
  go_loopw [17] (fun i wr => ∃ k : Nat, k ≤ n ∧ i = .int .i64 k ∧ Ext w wr) (fun i _ => n - (intOf i).toNat)
  case atStart => exact ⟨0, by omega, rfl, Ext.refl _⟩
  case round =>
    obtain ⟨k, hk, rfl, he⟩ := hrel
    by_cases hlt : k < n
    · obtain ⟨ad, S, x, y, rfl, k0, k1, k2, hx, _⟩ := h.at_ hlt
      obtain ⟨ad', S', x', y', rfl, l0, l1, l2, hx', _⟩ := h'.at_ hlt
      have c0 := he.cell k0
      have c1 := he.cell k1
      have c2 := he.cell k2
      have d0 := he.cell l0
      have d1 := he.cell l1
      have d2 := he.cell l2
      clear k0 k1 k2 l0 l1 l2
      generalize (gE e k).f = f at *
      generalize (gE e k).t = t at *
      generalize (gE e k).x = z at *
      have e1 := (Ext.alloc wr (.cells #[.int .i64 f, .int .i64 t, .slice S x y] 64)).cell d0
      have e2 := (Ext.alloc wr (.cells #[.int .i64 f, .int .i64 t, .slice S x y] 64)).cell d1
      have e3 := (Ext.alloc wr (.cells #[.int .i64 f, .int .i64 t, .slice S x y] 64)).cell d2
      have hx2 : Ext w ((wr.alloc (.cells #[.int .i64 f, .int .i64 t, .slice S x y] 64)).alloc (.cells #[.int .i64 f, .int .i64 t, .slice S' x' y'] 64)) := (he.to_alloc _).to_alloc _
      have HC := Lib.hid (same1_ok (f := f) (t := t) (hx.ext hx2) (hx'.ext hx2))
      clear hx hx' d0 d1 d2
      go_wp2_with fail
      refine HC.out.mono ?_
      rintro e' w1 ⟨rfl, he1⟩
      clear HC
      go_wp2_with fail
      go_roundw
      case rel => exact ⟨k + 1, by omega, by go_num, hx2.trans he1⟩
      case measure => simp [intOf]; omega
    · obtain rfl : k = n := by omega
      go_wp2_with fail
      go_ret
      exact ⟨rfl, he⟩

set_option maxRecDepth 20000 in
set_option maxHeartbeats 1000000 in
theorem sameEdit_ok {A B : Option Addr} {n c d : Nat} {e : List Spl} {w : World} (h : EditAt w A n c e) (h' : EditAt w B n d e) :
    Calls Try.prog 19 #[.slice A n c, .slice B n d] w fun e w' => e = .returned (.bool true) ∧ Ext w w' := by
  have HC := Lib.hid (equalFunc_ok h h')
  clear h h'
  go_enter Try.func19, Try.ntmps19
  go_wp2_with fail
  refine HC.out.mono ?_
  rintro e' w1 ⟨rfl, he1⟩
  go_wp2_with fail
  go_ret
  exact ⟨rfl, he1⟩
end Go.Proofs.Ytmhgndjmcignjaa

namespace Go.Proofs.Ytmhgndjmcignjaa
open Go.RowKit
set_option linter.unusedVariables false
set_option linter.unusedSimpArgs false

theorem behind_start {n : Int} {e : List Spl} (h : good n (-1) e) : behind 0 e := fun u hu => by
  cases e with
  | nil => cases hu
  | cons v e => cases hu; have := h.1; omega
theorem chk_und {l : List Int} {e : List Spl} {n N : Nat} (hl : l.length = n) (hN : (appF l 0 e).length = N) (h : chkF n e = 0) : chkF N (undF l 0 e) = 0 := by
  obtain ⟨h1, h2, h3, h4⟩ := chkF_zero.1 h
  subst hl
  have hlen := app_len l e 0 (-1) h3 (by omega) (by omega) (behind_start h3)
  have hfe := fits_end h4
  have hd := delta_lo h3 (by omega) (by omega)
  refine chkF_zero.2 ⟨by omega, by omega, ?_, ?_⟩
  · exact und_good e (-1) 0 h3 (by omega) (by omega) (by omega) (by omega) (by omega)
  · exact und_fits e (-1) 0 l.length h3 (by omega) (by omega) h4 (by omega) (by omega) (by omega) _ (by omega) (by omega) (by omega)
theorem app_und {l : List Int} {e : List Spl} {n : Nat} (hl : l.length = n) (h : chkF n e = 0) : appF (appF l 0 e) 0 (undF l 0 e) = l ∧ undF (appF l 0 e) 0 (undF l 0 e) = e := by
  obtain ⟨h1, h2, h3, h4⟩ := chkF_zero.1 h
  subst hl
  have k1 := back_app l e 0 (-1) 0 [] h3 (behind_start h3) (by simp)
  have k2 := back_und l e 0 (-1) 0 [] h3 (behind_start h3) (by simp)
  exact ⟨by simpa using k1, by simpa using k2⟩
theorem edit_lit1 {W : World} {g : Nat} {f t : Int} {B : Option Addr} {m d : Nat} {x : List Int} (h : Blk W g 64 #[.int .i64 f, .int .i64 t, .slice B m d]) (hx : Ints W B m d x) (hn : B = none → d = 0) : EditAt W (some ⟨g, 0, none⟩) 1 1 [⟨f, t, x⟩] := by
  refine ⟨[.int .i64 f, .int .i64 t, .slice B m d], ⟨rfl, Nat.le_refl _, by unfold maxLen; omega, fun _ => ⟨_, rfl, fun j u hu => ?_⟩⟩, rfl, fun i hi => ?_⟩
  · have : (⟨g, 0, none⟩ : Addr).add j = ⟨g, j, none⟩ := by simp [Addr.add_lit]
    rw [this, h.cell j]
    simpa using hu
  · obtain rfl : i = 0 := by simpa using hi
    exact ⟨B, m, d, rfl, rfl, rfl, hx, hn⟩
end Go.Proofs.Ytmhgndjmcignjaa
