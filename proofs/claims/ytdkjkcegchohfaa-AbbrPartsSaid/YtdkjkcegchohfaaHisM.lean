/-
  Words of histories: a slice of slices of numbers; the struct. slices.Clone of a slice of slices.
-/
import Derived.Test.YtdkjkcegchohfaaRegA
namespace Go.Proofs.Ytdkjkcegchohfaa
open Go.RowKit
set_option linter.unusedVariables false
set_option linter.unusedSimpArgs false

/-- The i-th line; behind a name. -/
def gL (ls : List (List Int)) (i : Nat) : List Int := ls[i]?.getD []
/-- Values that are slices of these lines. -/
def LnV (w : World) (xs : List Value) (ls : List (List Int)) : Prop := xs.length = ls.length ∧ ∀ i, i < ls.length → ∃ v, xs[i]? = some v ∧ RegSl w v (gL ls i)
/-- A slice of lines. -/
def Lns (w : World) (A : Option Addr) (n c : Nat) (ls : List (List Int)) : Prop := ∃ xs, Rd w 1 A n c xs ∧ LnV w xs ls
/-- Lines in memory of the call's own, none in a row's block. -/
def LnO (w : World) (b : Nat) (row : Option Nat) (xs : List Value) (ls : List (List Int)) : Prop := xs.length = ls.length ∧ ∀ i, i < ls.length → ∃ v, xs[i]? = some v ∧ RegOw w b v (gL ls i) ∧ (v.ownBlock = none ∨ v.ownBlock ≠ row)
/-- A slice of lines of the call's own. -/
def LnsO (w : World) (b : Nat) (A : Option Addr) (n c : Nat) (ls : List (List Int)) : Prop := ∃ xs, Own w b 23 1 A n c xs ∧ LnO w b (Value.slice A n c).ownBlock xs ls ∧ (A = none → c = 0)
section
variable {w w' : World} {A : Option Addr} {n c b : Nat} {ls : List (List Int)} {xs : List Value} {row : Option Nat}
theorem LnV.ext (h : LnV w xs ls) (he : Ext w w') : LnV w' xs ls := ⟨h.1, fun i hi => by obtain ⟨v, h1, h2⟩ := h.2 i hi; exact ⟨v, h1, h2.ext he⟩⟩
theorem LnV.one (h : LnV w xs ls) : ∀ u ∈ xs, u.oneCell' = true := by
  intro u hu
  obtain ⟨i, hi, rfl⟩ := List.mem_iff_getElem.1 hu
  obtain ⟨v, h1, A, n, c, rfl, _⟩ := h.2 i (by rw [← h.1]; exact hi)
  rw [List.getElem?_eq_getElem hi] at h1
  injection h1 with h1
  rw [h1]; rfl
theorem Lns.ext (h : Lns w A n c ls) (he : Ext w w') : Lns w' A n c ls := by obtain ⟨xs, h1, h2⟩ := h; exact ⟨xs, Rd.ext h1 he, h2.ext he⟩
theorem Lns.len (h : Lns w A n c ls) : ls.length = n := by obtain ⟨xs, h1, h2⟩ := h; have := h1.len; rw [h2.1] at this; omega
theorem Lns.ncap (h : Lns w A n c ls) : n ≤ c := by obtain ⟨xs, h1, h2⟩ := h; exact Rd.ncap h1
theorem Lns.nmax (h : Lns w A n c ls) : c ≤ maxLen := by obtain ⟨xs, h1, h2⟩ := h; exact Rd.nmax h1
theorem Lns.at_ (h : Lns w A n c ls) {k : Nat} (hk : k < n) : ∃ ad v, A = some ad ∧ w.cell? (ad.add k) = some v ∧ RegSl w v (gL ls k) := by
  have hl := h.len
  obtain ⟨xs, h1, h2⟩ := h
  obtain ⟨ad, e, hc⟩ := h1.at_ hk
  obtain ⟨v, h3, h4⟩ := h2.2 k (by omega)
  exact ⟨ad, v, e, hc k v h3, h4⟩
theorem LnO.lnv (h : LnO w b row xs ls) : LnV w xs ls := ⟨h.1, fun i hi => by obtain ⟨v, h1, h2, _⟩ := h.2 i hi; exact ⟨v, h1, h2.sl⟩⟩
theorem LnO.ext (h : LnO w b row xs ls) (he : Ext w w') : LnO w' b row xs ls := ⟨h.1, fun i hi => by obtain ⟨v, h1, h2, h3⟩ := h.2 i hi; exact ⟨v, h1, h2.ext he, h3⟩⟩
theorem LnO.setCell (h : LnO w b row xs ls) {p : Addr} (hp : p.block < b) (u : Value) : LnO (w.setCell p u) b row xs ls := ⟨h.1, fun i hi => by obtain ⟨v, h1, h2, h3⟩ := h.2 i hi; exact ⟨v, h1, h2.setCell hp u, h3⟩⟩
theorem LnO.grown {row' : Option Nat} (h : LnO w b row xs ls) (hg : w.grownBy w' row) (hr : row' = row ∨ ∃ g, w.heap.size ≤ g ∧ row' = some g) : LnO w' b row' xs ls :=
  ⟨h.1, fun i hi => by
    obtain ⟨v, h1, ⟨A, n, c, rfl, h2, h4⟩, h3⟩ := h.2 i hi
    refine ⟨_, h1, ⟨A, n, c, rfl, Own.kept h2 hg h3, h4⟩, ?_⟩
    rcases hr with rfl | ⟨g, hgs, rfl⟩
    · exact h3
    · cases hb : (Value.slice A n c).ownBlock with
      | none => exact .inl rfl
      | some g' =>
        have := (Own.blk h2 g' hb).2
        exact .inr (fun e => by injection e with e; omega)⟩
theorem gL_left {l : List Int} {i : Nat} (h : i < ls.length) : gL (ls ++ [l]) i = gL ls i := by unfold gL; rw [List.getElem?_append_left h]
theorem gL_last {l : List Int} : gL (ls ++ [l]) ls.length = l := by unfold gL; simp
theorem LnO.snoc {l : List Int} {v : Value} (h : LnO w b row xs ls) (hv : RegOw w b v l) (hr : v.ownBlock = none ∨ v.ownBlock ≠ row) : LnO w b row (xs ++ [v]) (ls ++ [l]) := by
  refine ⟨by simp [h.1], fun i hi => ?_⟩
  rw [List.length_append, List.length_singleton] at hi
  rcases Nat.lt_or_ge i ls.length with hlt | hge
  · obtain ⟨u, h1, h2, h3⟩ := h.2 i hlt
    rw [gL_left hlt]
    exact ⟨u, by rw [List.getElem?_append_left (by rw [h.1]; exact hlt)]; exact h1, h2, h3⟩
  · obtain rfl : i = ls.length := by omega
    rw [gL_last]
    exact ⟨v, by rw [List.getElem?_append_right (by rw [h.1]; exact Nat.le_refl _), h.1, Nat.sub_self]; rfl, hv, hr⟩
theorem LnO.nil (w : World) (b : Nat) (row : Option Nat) : LnO w b row [] [] := ⟨rfl, fun i hi => absurd hi (by simp)⟩
theorem LnsO.nil (w : World) (b : Nat) : LnsO w b none 0 0 [] := ⟨[], Own.nil _ _ _ _, LnO.nil _ _ _, fun _ => rfl⟩
theorem LnsO.lns (h : LnsO w b A n c ls) : Lns w A n c ls := by obtain ⟨xs, h1, h2, _⟩ := h; exact ⟨xs, Own.rd h1, h2.lnv⟩
theorem LnsO.ext (h : LnsO w b A n c ls) (he : Ext w w') : LnsO w' b A n c ls := by obtain ⟨xs, h1, h2, h3⟩ := h; exact ⟨xs, Own.ext h1 he, h2.ext he, h3⟩
theorem LnsO.setCell (h : LnsO w b A n c ls) {p : Addr} (hp : p.block < b) (u : Value) : LnsO (w.setCell p u) b A n c ls := by obtain ⟨xs, h1, h2, h3⟩ := h; exact ⟨xs, Own.setCell h1 hp u, h2.setCell hp u, h3⟩
theorem LnsO.setRow (h : LnsO w b A n c ls) {g : Nat} (hg : g < b) (us : Array Value) : LnsO (w.setRow g us) b A n c ls := by
  obtain ⟨xs, h1, h2, h3⟩ := h
  exact ⟨xs, Own.setRow h1 hg us, ⟨h2.1, fun i hi => by obtain ⟨v, k1, k2, k3⟩ := h2.2 i hi; exact ⟨v, k1, k2.setRow hg us, k3⟩⟩, h3⟩
theorem LnsO.lower {b' : Nat} (h : LnsO w b A n c ls) (hb : b' ≤ b) : LnsO w b' A n c ls := by
  obtain ⟨xs, h1, h2, h3⟩ := h
  exact ⟨xs, Own.lower h1 hb, ⟨h2.1, fun i hi => by obtain ⟨v, k1, k2, k3⟩ := h2.2 i hi; exact ⟨v, k1, k2.lower hb, k3⟩⟩, h3⟩
end
theorem info_sl : (Try.prog.info? 23).map (fun i => (i.zero, i.size, i.bytes)) = some (some (.slice none 0 0), 1, 24) := by kernel_rfl

set_option maxRecDepth 20000 in
set_option maxHeartbeats 1000000 in
/-- slices.Clone of a slice of slices: the same slices in a new row. -/
theorem clone2_ok {A : Option Addr} {n c : Nat} {xs : List Value} {w : World} (hl : Rd w 1 A n c xs) (h1 : ∀ u ∈ xs, u.oneCell' = true) (hA : A = none → c = 0) (hb : n * 24 ≤ 140737488355328) :
    Calls Try.prog 23 #[.slice A n c] w fun e w' => ∃ B d, e = .returned (.slice B n d) ∧ Own w' w.heap.size 23 1 B n d xs ∧ (B = none → d = 0) ∧ Ext w w' := by
  obtain ⟨i0, hi, hz0, hz1, hz2⟩ := info_parts info_sl
  have hlen := hl.len
  have hnc := hl.ncap
  have hcm := hl.nmax
  have HB := Lib.hid hb
  clear hb
  unfold maxLen at hcm
  have hq : ∀ w1 : World, (binOp .eql 22 (.slice A n c) (.slice none 0 0)).run Try.prog w1 = .ok (.bool A.isNone) w1 := fun w1 => Lib.run_eql_slice_nil w1 22 23 A n c 0 0 Try.underlying22
  rcases A with _ | ad
  · obtain rfl := hA rfl
    obtain rfl : n = 0 := by omega
    obtain rfl : xs = [] := List.eq_nil_of_length_eq_zero (by omega)
    clear HB hi hz0 hz1 hz2
    go_enter Try.func23, Try.ntmps23
    go_wp2_with fail
    go_ret
    exact ⟨none, 0, rfl, Own.nil _ _ _ _, fun _ => rfl, Ext.refl _⟩
  · have hn := Lib.hid hlen
    clear hlen hA
    go_enter Try.func23, Try.ntmps23
    have hown0 : Own (w.alloc (.cells #[] 23)) w.heap.size 23 1 (some ⟨w.heap.size, 0, none⟩) 0 0 [] :=
      ⟨rfl, .inr ⟨w.heap.size, 0, #[], rfl, Nat.le_refl _, heap_alloc_new w _, Nat.le_refl _, Nat.zero_le _, rfl, rfl⟩⟩
    have hx0 := Ext.alloc w (.cells #[] 23)
    go_wp2_with (at_builtin; refine wpList_app rfl (.tmp 5) (.tmp 6) 22 rfl w w.heap.size 23 i0 (.slice none 0 0) 1 24 Try.underlying22 hi hz0 hz1 hz2 rfl (by decide) _ 0 0 [] rfl hown0 _ n c _ rfl (hl.ext hx0) ?_ ?_ ?_ hx0 (Nat.le_refl _) hx0.hsize ?_)
    · exact h1
    · have := hl.nmax; unfold maxLen at this ⊢; omega
    · have := HB.out; omega
    · intro A' c' w' hown' hgr hor he'
      clear hgr hown0 hx0
      have hnil : A' = none → c' = 0 := by
        rintro rfl
        rcases hown'.2 with ⟨hv, _⟩ | ⟨g, cap, cur, hv, _⟩
        · injection hv
        · injection hv with h1; cases h1
      clear hor
      go_wp2_with fail
      go_ret
      exact ⟨A', c', rfl, by simpa using hown', hnil, he'⟩
end Go.Proofs.Ytdkjkcegchohfaa
