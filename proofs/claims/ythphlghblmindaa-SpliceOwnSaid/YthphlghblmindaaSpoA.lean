/-
  For SpliceOwn: slices.Clone at []api.Splice; spoil, and what it leaves; what Apply, Undo, Between, Over answer whatever comes.
-/
import Derived.Test.YthphlghblmindaaSplV
import Derived.Test.YthphlghblmindaaBtwW
import Derived.Test.YthphlghblmindaaOwn
import Derived.Lib.SliceRun
namespace Go.Proofs.Ythphlghblmindaa
open Go.RowKit
set_option linter.unusedVariables false
set_option linter.unusedSimpArgs false

theorem edits_one {w : World} {xs : List Value} {e : List Spl} (h : Edits w xs e) : ∀ u ∈ xs, u.oneCell' = true := by
  intro u hu
  obtain ⟨i, hi, rfl⟩ := List.getElem_of_mem hu
  have hl := h.1
  obtain ⟨B, m, d, h1, h2, h3, _⟩ := h.2 (i / 3) (by omega)
  have h4 : xs[i]? = some xs[i] := List.getElem?_eq_getElem hi
  rcases (show i = i / 3 * 3 ∨ i = i / 3 * 3 + 1 ∨ i = i / 3 * 3 + 2 by omega) with e | e | e
  · rw [← e, h4] at h1; injection h1 with h1; rw [h1]; rfl
  · rw [← e, h4] at h2; injection h2 with h2; rw [h2]; rfl
  · rw [← e, h4] at h3; injection h3 with h3; rw [h3]; rfl

set_option maxRecDepth 20000 in
set_option maxHeartbeats 1000000 in
theorem cloneE_ok {A : Option Addr} {n c : Nat} {e : List Spl} {xs : List Value} {w : World} (hr : Rd w 3 A n c xs) (he : Edits w xs e) (hA : A = none → c = 0) (hb : n * 40 ≤ 140737488355328) :
    Calls Try.prog 19 #[.slice A n c] w fun e' w' => ∃ B d, e' = .returned (.slice B n d) ∧ Own w' w.heap.size 45 3 B n d xs ∧ Ext w w' := by
  obtain ⟨i0, hi, hz0, hz1, hz2⟩ := info_parts info_splice
  have hlen := hr.len
  have hnc := hr.ncap
  have hcm := hr.nmax
  have HB := Lib.hid hb
  clear hb
  unfold maxLen at hcm
  have hq : ∀ w1 : World, (binOp .eql 39 (.slice A n c) (.slice none 0 0)).run Try.prog w1 = .ok (.bool A.isNone) w1 := fun w1 => Lib.run_eql_slice_nil w1 39 45 A n c 0 0 Try.underlying39
  rcases A with _ | ad
  · obtain rfl := hA rfl
    obtain rfl : n = 0 := by omega
    obtain rfl : xs = [] := List.eq_nil_of_length_eq_zero (by simpa using hlen)
    clear HB hi hz0 hz1 hz2
    go_enter Try.func19, Try.ntmps19
    go_wp2_with fail
    go_ret
    exact ⟨none, 0, rfl, World.ownsRow_nil _ _ _ _, Ext.refl _⟩
  · have hn := Lib.hid hlen
    have HONE := Lib.hid (edits_one he)
    clear hlen hA he
    go_enter Try.func19, Try.ntmps19
    have hown0 : Own (w.alloc (.cells #[] 45)) w.heap.size 45 3 (some ⟨w.heap.size, 0, none⟩) 0 0 [] :=
      ⟨rfl, .inr ⟨w.heap.size, 0, #[], rfl, Nat.le_refl _, heap_alloc_new w _, Nat.le_refl _, Nat.zero_le _, rfl, rfl⟩⟩
    have hx0 := Ext.alloc w (.cells #[] 45)
    go_wp2_with (at_builtin; refine wpList_app rfl (.tmp 5) (.tmp 6) 39 rfl w w.heap.size 45 i0 _ 3 40 Try.underlying39 hi hz0 hz1 hz2 rfl (by decide) _ 0 0 [] rfl hown0 _ n c _ rfl (hr.ext hx0) ?_ ?_ ?_ hx0 (Nat.le_refl _) hx0.hsize ?_)
    · exact HONE.out
    · have := hr.nmax; unfold maxLen at this ⊢; omega
    · have := HB.out; omega
    · intro A' c' w' hown' hgr hor he'
      have HO : Hid (Own w' w.heap.size 45 3 A' n c' xs) := Lib.hid (by simpa using hown')
      clear hgr hown0 hx0 hown' hor
      go_wp2_with fail
      go_ret
      exact ⟨A', c', by first | rfl | simp, HO.out, he'⟩

/-! spoil -/
/-- A row of numbers, whatever it holds. -/
def RowB (w : World) (v : Value) (a b : Nat) : Prop := ∃ g n c cur, v = .slice (some ⟨g, 0, none⟩) n c ∧ Blk w g 3 cur ∧ cur.size = c ∧ c ≤ maxLen ∧ n ≤ c ∧ (a ≤ g ∧ g < b)
theorem RowB.ext {w w' : World} {v : Value} {a b : Nat} (h : RowB w v a b) (he : Ext w w') : RowB w' v a b := let ⟨g, n, c, cur, h1, h2, h3⟩ := h; ⟨g, n, c, cur, h1, h2.ext he, h3⟩
theorem RowB.wide {w : World} {v : Value} {a a' b b' : Nat} (h : RowB w v a b) (ha : a' ≤ a) (hb : b ≤ b') : RowB w v a' b' := let ⟨g, n, c, cur, h1, h2, h3, h4, h5, h6, h7⟩ := h; ⟨g, n, c, cur, h1, h2, h3, h4, h5, by omega, by omega⟩
theorem Amp.rowB {w : World} {b : Nat} {v : Value} {l : List Int} {x : Int} (h : Amp w b v l x) : RowB w v b w.heap.size := by
  obtain ⟨A, n, c, rfl, h1, h2⟩ := h
  have hh : Own w b 3 1 (some A) (n + 2) c ((l ++ [x, x]).map (Value.int .i64)) := h1
  obtain ⟨_, h3⟩ := hh
  rcases h3 with ⟨h3, h4⟩ | ⟨g, cap, cur, hv, hb, hg, hn, hcap, hcur, ht⟩
  · cases h3
  · cases hv
    exact ⟨g, n, c, cur, rfl, hg, by omega, hcap, by omega, hb, Blk.lt hg⟩
/-- From w to w' blocks below b have been written. -/
def GrowLow (b : Nat) (w w' : World) : Prop := ∀ P : World → Prop, (∀ a c g, P a → a.grownBy c (some g) → g < b → P c) → P w → P w'
theorem GrowLow.refl (b : Nat) (w : World) : GrowLow b w w := fun _ _ h => h
theorem GrowLow.step {b : Nat} {w a c : World} {g : Nat} (h : GrowLow b w a) (hg : a.grownBy c (some g)) (hb : g < b) : GrowLow b w c := fun P h1 h2 => h1 a c g (h P h1 h2) hg hb
theorem GrowLow.edOwn {b bb : Nat} {w w' : World} (h : GrowLow b w w') {v : Value} {e : List Spl} (he : EdOwn w bb v e) (hb : b ≤ bb) : EdOwn w' bb v e :=
  h (fun x => EdOwn x bb v e) (fun a c g h1 h2 h3 => h1.kept h2 (fun k hk => by injection hk with hk; omega)) he
theorem GrowLow.ownI {b bb : Nat} {w w' : World} (h : GrowLow b w w') {A : Option Addr} {n c : Nat} {l : List Int} (ho : OwnI w bb A n c l) (hb : b ≤ bb) : OwnI w' bb A n c l :=
  h (fun x => OwnI x bb A n c l) (fun a c' g h1 h2 h3 => Own.kept h1 h2 (by
    cases hq : (Value.slice A n c).ownBlock with
    | none => exact .inl rfl
    | some q => exact .inr (fun e => by injection e with e; have := (Own.blk h1 q hq).1; omega))) ho
theorem GrowLow.ext {b : Nat} {w0 w w' : World} (h : GrowLow b w w') (hx : Ext w0 w) (hs : ∀ a c g, a.grownBy c (some g) → g < b → Ext w0 a → Ext w0 c) : Ext w0 w' := h (Ext w0) (fun a c g h1 h2 h3 => hs a c g h2 h3 h1) hx

set_option maxRecDepth 20000 in
set_option maxHeartbeats 4000000 in
theorem spoil_row {v : Value} {a b : Nat} {x : Int} {w : World} (h : RowB w v a b) :
    Calls Try.prog 25 #[v, .int .i64 x] w fun e w' => (∃ u, e = .returned u) ∧ ∃ g, (a ≤ g ∧ g < b) ∧ w.grownBy w' (some g) ∧ (∃ cs, Blk w g 3 cs) ∧ ∀ v2 a2 b2, RowB w v2 a2 b2 → RowB w' v2 a2 b2 := by
  obtain ⟨g, n, c, cur, rfl, hg, hcl, hcm, hnc, hgb⟩ := h
  unfold maxLen at hcm
  have hb0 : Hid (Blk w g 3 cur) := Lib.hid hg
  have hgr : Hid (w.grownBy w (some g)) := Lib.hid (World.grownBy.refl _ _)
  have hcz := Lib.hid hcl
  have hbw : Hid (∃ cs, Blk w g 3 cs) := Lib.hid ⟨_, hg⟩
  clear hg hcl
  go_enter Try.func25, Try.ntmps25
  go_wp2_with fail
  go_loopw [11] (fun s wx => ∃ (k : Nat) (cs : Array Value), k ≤ c ∧ s = .int .i64 k ∧ Hid (Blk wx g 3 cs) ∧ Hid (cs.size = c) ∧ Hid (w.grownBy wx (some g))) (fun s _ => c - (intOf s).toNat)
  case atStart => exact ⟨0, cur, by omega, rfl, hb0, hcz, hgr⟩
  case round =>
    have HC0 : Hid (∀ (c2 : Nat) (cur2 : Array Value), Blk w g 3 cur2 → cur2.size = c2 → c2 = c) := Lib.hid fun c2 cur2 h1 h2 => by
      have h3 : Blk w g 3 cur := hb0.out
      have h4 := hcz.out
      unfold Blk at h1 h3
      rw [h1] at h3
      injection h3 with h3
      injection h3 with h3
      rw [h3] at h2
      omega
    clear hb0 hcz hgr
    obtain ⟨k, cs, hk, rfl, Hb, Hs, Hg⟩ := hrel
    by_cases hlt : k < c
    · have hcell : wr.cell? ⟨g, k, none⟩ = some (cs[k]'(by rw [Hs.out]; exact hlt)) := by rw [Hb.out.cell k, Array.getElem?_eq_getElem]
      have hfr := Hb.out.frozen k
      go_wp2_with fail
      go_roundw
      case rel =>
        refine ⟨k + 1, cs.setIfInBounds k (.int .i64 x), by omega, by go_num, Lib.hid (Hb.out.set_ k _), Lib.hid (by simpa using Hs.out), Lib.hid ?_⟩
        exact grownBy_trans Hg.out (grownBy_set wr ⟨g, k, none⟩ (.int .i64 x))
      case measure => simp [intOf]; omega
    · obtain rfl : k = c := by omega
      have hend := Hg.out
      have HFIN : Hid (∀ v2 a2 b2, RowB w v2 a2 b2 → RowB wr v2 a2 b2) := Lib.hid (by
        rintro v2 a2 b2 ⟨g2, n2, c2, cur2, e1, e2, e3, e4, e5, e6⟩
        by_cases hgg : g2 = g
        · subst hgg
          exact ⟨g2, n2, c2, cs, e1, Hb.out, by rw [Hs.out]; exact (HC0.out c2 cur2 e2 e3).symm, e4, e5, e6⟩
        · exact ⟨g2, n2, c2, cur2, e1, e2.grown hend (fun e => hgg (by injection e)), e3, e4, e5, e6⟩)
      clear Hb Hs Hg
      go_wp2_with fail
      go_end0
      exact ⟨⟨_, rfl⟩, g, hgb, hend, hbw.out, HFIN.out⟩

/-! The four, whatever comes. -/
def undR (l : List Int) (n : Nat) (e : List Spl) : List Spl := if chkF n e = 0 then undF l 0 e else []
def ovR (N : Nat) (a b : List Spl) (ahead : Bool) : List Spl := if chkF N a = 0 ∧ chkF N b = 0 then overF N a b ahead else []
theorem apply_any {e : List Spl} {l : List Int} {A E : Option Addr} {n c m d : Nat} {w : World} (hl : Ints w A n c l) (h : EditAt w E m d e) :
    Calls Try.prog 20 #[.slice A n c, .slice E m d] w fun e' w' => ∃ B q r z o, e' = .returned (.tuple #[.slice B q r, .int .i64 z]) ∧ OwnI w' w.heap.size B q r o ∧ q ≤ 4096 ∧ Ext w w' := by
  by_cases hz : chkF n e = 0
  · exact (apply_ok hl h hz).mono fun e' w' ⟨B, q, r, h1, h2, _, h3⟩ => ⟨B, q, r, 0, _, h1, h2, by have := app_max hl.len hz; rw [(OwnI.ints h2).len] at this; exact this, h3⟩
  · exact (apply_bad hl h hz).mono fun e' w' ⟨h1, h2⟩ => ⟨none, 0, 0, _, [], h1, OwnI.nil _ _, by omega, h2⟩
theorem undo_any {e : List Spl} {l : List Int} {A E : Option Addr} {n c m d : Nat} {w : World} (hl : Ints w A n c l) (hA : A = none → c = 0) (h : EditAt w E m d e) :
    Calls Try.prog 21 #[.slice A n c, .slice E m d] w fun e' w' => ∃ B q r z, e' = .returned (.tuple #[.slice B q r, .int .i64 z]) ∧ EdOwn w' w.heap.size (.slice B q r) (undR l n e) ∧ Ext w w' := by
  unfold undR
  by_cases hz : chkF n e = 0
  · rw [if_pos hz]
    exact (undo_own hl hA h hz).mono fun e' w' ⟨B, q, r, h1, h2, h3⟩ => ⟨B, q, r, 0, h1, h2, h3⟩
  · rw [if_neg hz]
    exact (undo_bad hl h hz).mono fun e' w' ⟨h1, h2⟩ => ⟨none, 0, 0, _, h1, EdOwn.nil _ _, h2⟩
set_option maxRecDepth 20000 in
set_option maxHeartbeats 1000000 in
theorem over_bad {ea eb : List Spl} {A B : Option Addr} {N m d q r : Nat} {ahead : Bool} {w : World} (ha : EditAt w A m d ea) (hb : EditAt w B q r eb) (hN : N ≤ maxLen) (hc : ¬ (chkF N ea = 0 ∧ chkF N eb = 0)) :
    Calls Try.prog 22 #[.int .i64 N, .slice A m d, .slice B q r, .bool ahead] w fun e' w' => (∃ z : Int, e' = .returned (.tuple #[.slice none 0 0, .int .i64 z])) ∧ Ext w w' := by
  by_cases h1 : chkF N ea = 0
  · have h2 : chkF N eb ≠ 0 := fun h => hc ⟨h1, h⟩
    have HC1 := Lib.hid (check_ok ha hN)
    rw [h1] at HC1
    have HC2 : Hid (∀ wq, Ext w wq → Calls Try.prog 47 #[.int .i64 N, .slice B q r] wq fun e' w' => e' = .returned (.int .i64 (chkF N eb)) ∧ Ext wq w') := Lib.hid fun wq he => check_ok (hb.ext he) hN
    generalize chkF N eb = z at *
    have b1 : (z != 0) = true := by simpa using h2
    clear ha hb hc h1 h2
    unfold maxLen at hN
    go_enter Try.func22, Try.ntmps22
    go_wp2_with fail
    refine HC1.out.mono ?_
    rintro e' w1 ⟨rfl, he1⟩
    go_wp2_with fail
    refine (HC2.out _ he1).mono ?_
    rintro e' w2 ⟨rfl, he2⟩
    clear HC1 HC2
    go_wp2_with fail
    go_ret2
    exact ⟨⟨z, rfl⟩, he1.trans he2⟩
  · have HC1 := Lib.hid (check_ok ha hN)
    generalize chkF N ea = z at *
    have b1 : (z != 0) = true := by simpa using h1
    clear ha hb hc h1
    unfold maxLen at hN
    go_enter Try.func22, Try.ntmps22
    go_wp2_with fail
    refine HC1.out.mono ?_
    rintro e' w1 ⟨rfl, he1⟩
    clear HC1
    go_wp2_with fail
    go_ret2
    exact ⟨⟨z, rfl⟩, he1⟩
theorem over_any {ea eb : List Spl} {A B : Option Addr} {N m d q r : Nat} {ahead : Bool} {w : World} (ha : EditAt w A m d ea) (hb : EditAt w B q r eb) (hN : N ≤ maxLen) :
    Calls Try.prog 22 #[.int .i64 N, .slice A m d, .slice B q r, .bool ahead] w fun e' w' => ∃ O k c z, e' = .returned (.tuple #[.slice O k c, .int .i64 z]) ∧ EdOwn w' w.heap.size (.slice O k c) (ovR N ea eb ahead) ∧ Ext w w' := by
  unfold ovR
  by_cases hc : chkF N ea = 0 ∧ chkF N eb = 0
  · rw [if_pos hc]
    exact (over_ok ha hb hc.1 hc.2).mono fun e' w' ⟨⟨O, k, c, xs, h1, h2, h3⟩, h4⟩ => ⟨O, k, c, 0, h1, ⟨O, k, c, xs, none, rfl, h2, h3⟩, h4⟩
  · rw [if_neg hc]
    exact (over_bad ha hb hN hc).mono fun e' w' ⟨⟨z, h1⟩, h2⟩ => ⟨none, 0, 0, z, h1, EdOwn.nil _ _, h2⟩
/-- What is between two lists. -/
def BtwIs (l m : List Int) (e : List Spl) : Prop := (l.length ≤ 4096 ∧ m.length ≤ 4096 ∧ ∃ k j, btw l m k j ∧ ((k = l.length ∧ k = m.length ∧ e = []) ∨ (¬ (k = l.length ∧ k = m.length) ∧ e = [btwS l m k j]))) ∨ (¬ (l.length ≤ 4096 ∧ m.length ≤ 4096) ∧ e = [])
theorem drop_gI {l m : List Int} {j i : Nat} (h : l.drop (l.length - j) = m.drop (m.length - j)) (hl : j ≤ l.length) (hm : j ≤ m.length) (hi : i < j) : gI l (l.length - 1 - i) = gI m (m.length - 1 - i) := by
  have h1 : (l.drop (l.length - j))[j - 1 - i]? = (m.drop (m.length - j))[j - 1 - i]? := by rw [h]
  rw [List.getElem?_drop, List.getElem?_drop, show l.length - j + (j - 1 - i) = l.length - 1 - i by omega, show m.length - j + (j - 1 - i) = m.length - 1 - i by omega] at h1
  unfold gI
  rw [h1]
theorem btw_uniq {l m : List Int} {k j k' j' : Nat} (h : btw l m k j) (h' : btw l m k' j') : k = k' ∧ j = j' := by
  obtain ⟨a1, a2, a3, a4, a5⟩ := h
  obtain ⟨b1, b2, b3, b4, b5⟩ := h'
  have hk : k = k' := by
    rcases Nat.lt_trichotomy k k' with h | h | h
    · exact absurd (take_gI b2 h) (a4 (by omega))
    · exact h
    · exact absurd (take_gI a2 h) (b4 (by omega))
  subst hk
  refine ⟨rfl, ?_⟩
  rcases Nat.lt_trichotomy j j' with h | h | h
  · exact absurd (drop_gI b3 (by omega) (by omega) h) (a5 (by omega))
  · exact h
  · exact absurd (drop_gI a3 (by omega) (by omega) h) (b5 (by omega))
theorem BtwIs.uniq {l m : List Int} {e e' : List Spl} (h : BtwIs l m e) (h' : BtwIs l m e') : e = e' := by
  rcases h with ⟨h1, h2, k, j, h3, h4⟩ | ⟨h1, h2⟩ <;> rcases h' with ⟨g1, g2, k', j', g3, g4⟩ | ⟨g1, g2⟩
  · obtain ⟨rfl, rfl⟩ := btw_uniq h3 g3
    rcases h4 with ⟨p1, p2, p3⟩ | ⟨p1, p2⟩ <;> rcases g4 with ⟨q1, q2, q3⟩ | ⟨q1, q2⟩
    · rw [p3, q3]
    · exact absurd ⟨p1, p2⟩ q1
    · exact absurd ⟨q1, q2⟩ p1
    · rw [p2, q2]
  · exact absurd ⟨h1, h2⟩ g1
  · exact absurd ⟨g1, g2⟩ h1
  · rw [h2, g2]
theorem between_any {l m : List Int} {A B : Option Addr} {n c q d : Nat} {w : World} (hl : Ints w A n c l) (hm : Ints w B q d m) (hB : B = none → d = 0) :
    Calls Try.prog 17 #[.slice A n c, .slice B q d] w fun e' w' => ∃ O k c z e, e' = .returned (.tuple #[.slice O k c, .int .i64 z]) ∧ EdOwn w' w.heap.size (.slice O k c) e ∧ BtwIs l m e ∧ Ext w w' := by
  have h1 := hl.len
  have h2 := hm.len
  by_cases hc : n ≤ 4096 ∧ q ≤ 4096
  · refine (between_own hl hm hB hc.1 hc.2).mono fun e' w' ⟨⟨k, j, h3, h4⟩, h5⟩ => ?_
    rcases h4 with ⟨h6, h7, h8⟩ | ⟨h6, g, h7, h8⟩
    · exact ⟨none, 0, 0, 0, [], h8, EdOwn.nil _ _, .inl ⟨by omega, by omega, k, j, h3, .inl ⟨by omega, by omega, rfl⟩⟩, h5⟩
    · exact ⟨_, 1, 1, 0, _, h7, h8, .inl ⟨by omega, by omega, k, j, h3, .inr ⟨by omega, rfl⟩⟩, h5⟩
  · refine (between_large hl.ncap hl.nmax hm.ncap hm.nmax (by omega)).mono fun e' w' ⟨h3, h4⟩ => ?_
    subst h4
    exact ⟨none, 0, 0, 2, [], h3, EdOwn.nil _ _, .inr ⟨by omega, rfl⟩, Ext.refl _⟩
theorem sameEd {w : World} {b b' n c m d : Nat} {A B : Option Addr} {e : List Spl} (h : EdOwn w b (.slice A n c) e) (h' : EdOwn w b' (.slice B m d) e) :
    Calls Try.prog 26 #[.slice A n c, .slice B m d] w fun e w' => e = .returned (.bool true) ∧ Ext w w' := by
  obtain ⟨O, k, cc, e1, h1⟩ := h.at_
  obtain ⟨O', k', cc', e1', h1'⟩ := h'.at_
  injection e1 with e1 e2 e3
  injection e1' with f1 f2 f3
  subst e1; subst e2; subst e3; subst f1; subst f2; subst f3
  obtain rfl : n = m := by rw [← h1.len, ← h1'.len]
  exact sameEdit_ok h1 h1'
/-- A row of splices lies in no block of numbers. -/
theorem own_ne_int {w : World} {base n c g : Nat} {A : Option Addr} {xs : List Value} {cs : Array Value} (h : Own w base 45 3 A n c xs) (hb : Blk w g 3 cs) : (Value.slice A n c).ownBlock = none ∨ (Value.slice A n c).ownBlock ≠ some g := by
  rcases h.2 with ⟨hv, _⟩ | ⟨g', cap, cur, hv, _, hg, _⟩
  · rw [hv]; exact .inl rfl
  · rw [hv]
    refine .inr fun e => ?_
    have e : some g' = some g := e
    injection e with e
    subst e
    unfold Blk at hb
    rw [hb] at hg
    injection hg with hg
    injection hg with _ hg
    exact absurd hg (by decide)
theorem ext_spoilt {w0 a c : World} {g : Nat} (h : Ext w0 a) (hg : a.grownBy c (some g)) (hb : w0.heap.size ≤ g) : Ext w0 c := Below.grown h hg h.size (fun k hk => by injection hk with hk; omega)
end Go.Proofs.Ythphlghblmindaa
