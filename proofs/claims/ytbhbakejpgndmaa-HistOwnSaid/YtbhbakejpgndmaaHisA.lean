/-
  The walk of hist.Add.
-/
import Derived.Test.YtbhbakejpgndmaaEqv
import Derived.Test.YtbhbakejpgndmaaRinsL
import Derived.Test.YtbhbakejpgndmaaHisU
namespace Go.Proofs.Ytbhbakejpgndmaa
open Go.RowKit
set_option linter.unusedVariables false
set_option linter.unusedSimpArgs false

/-- The last m of a list. -/
def lastN {α : Type} (m : Nat) (l : List α) : List α := l.drop (l.length - min l.length m)
def addLs (h : Hi) (line : List Int) : List (List Int) := if line.length = 0 then h.lines else lastN h.most.toNat (h.lines ++ [line])
def addH (h : Hi) (line : List Int) : Hi := ⟨addLs h line, h.most, (addLs h line).length, [], h.pattern, h.older⟩
def AOk (h : Hi) (line : List Int) : Prop := ¬ h.bad ∧ ¬ h.long ∧ line.length ≤ 200
/-- What Add answers. -/
def Adds (h : Hi) (line : List Int) (w : World) (e : Ending) (w' : World) : Prop :=
  Ext w w' ∧ ((AOk h line ∧ ∃ u, e = .returned (.tuple #[u, .int .i64 0]) ∧ HisO w' w.heap.size u (addH h line)) ∨
    (¬ AOk h line ∧ ∃ x : Int, e = .returned (.tuple #[.agg hisZ, .int .i64 x]) ∧ x ≠ 0))

theorem results_row_tmp1 {P : Program} {fn : Func} {p q : Tmp} {ty : TypeId} (h : fn.results = #[.cell p ty, .tmp q]) (tmps : Array Value) (w : World) (g : Nat) (t : TypeId) (cs : Array Value) (fr : Nat × Nat) (d : TypeDesc) (v : Value)
    (hp : tmps.getD p undef = .pointer (some ⟨g, 0, none⟩)) (hq : tmps.getD q undef = v) (hg : w.heap[g]? = some (.cells cs t fr))
    (hu : P.underlying ty = some d) (hd : (match d with | .struct _ | .array _ _ => true | _ => false) = true) (hi : (P.info? ty).map (·.size) = some cs.size) :
    (results fn tmps).run P w = .ok (.tuple #[.agg cs, v]) w := by
  have hp' : tmps[p]?.getD undef = .pointer (some ⟨g, 0, none⟩) := by simpa using hp
  have hq' : tmps[q]?.getD undef = v := by simpa using hq
  simp [results, h, hp', hq', asAddr, run_loadVar_row w g t ty cs fr d hg hu hd hi]

theorem lns_snoc {w w2 w3 : World} {b k d d3 : Nat} {N : List Nat} {O O3 : Option Addr} {xs : List Value} {ls : List (List Int)} {v : Value} {l : List Int} (h1 : Own w b 22 1 O k d xs) (h2 : LnO w b (Value.slice O k d).ownBlock xs ls)
    (h4 : ∀ k', (Value.slice O k d).ownBlock = some k' → k' ∉ N) (h5 : ∀ (i : Nat) v, xs[i]? = some v → ∀ k, v.ownBlock = some k → k ∉ N) (hN : ∀ k, k ∈ N → k < w2.heap.size) (he : Ext w w2)
    (hv : RegOw w2 b v l) (hvb : ∀ g, v.ownBlock = some g → w.heap.size ≤ g ∧ g ∉ N) (hO3 : Own w3 b 22 1 O3 (k + 1) d3 (xs ++ [v])) (hgr : w2.grownBy w3 (Value.slice O k d).ownBlock)
    (hor : (Value.slice O3 (k + 1) d3).ownBlock = (Value.slice O k d).ownBlock ∨ ∃ g, w2.heap.size ≤ g ∧ (Value.slice O3 (k + 1) d3).ownBlock = some g) : LnsN w3 b N O3 (k + 1) d3 (ls ++ [l]) := by
  have hOb : ∀ g, (Value.slice O k d).ownBlock = some g → g < w.heap.size := fun g hg => (Own.blk h1 g hg).2
  have hrow : v.ownBlock = none ∨ v.ownBlock ≠ (Value.slice O k d).ownBlock := by
    cases hb : v.ownBlock with
    | none => exact .inl rfl
    | some g => exact .inr (fun e => by have h1 := (hvb g hb).1; have h2 := hOb g e.symm; omega)
  have hrow' : v.ownBlock = none ∨ v.ownBlock ≠ (Value.slice O3 (k + 1) d3).ownBlock := by
    cases hb : v.ownBlock with
    | none => exact .inl rfl
    | some g => exact .inr (fun e => by
        rcases hor with h2 | ⟨g', h2, h3⟩
        · rw [h2] at e; have := hOb g e.symm; have := (hvb g hb).1; omega
        · rw [h3] at e; injection e with e; have := (hv.blk g hb).2; omega)
  have hnew : RegOw w3 b v l := by
    obtain ⟨A, n, c, rfl, k1, k2⟩ := hv
    exact ⟨A, n, c, rfl, Own.kept k1 hgr hrow, k2⟩
  refine ⟨xs ++ [v], hO3, ((h2.ext he).grown hgr hor).snoc hnew hrow', Own.nocap' hO3, fun k' hk' hn => ?_, fun i u hu k' hk' => ?_⟩
  · rcases hor with h | ⟨g, hg, h⟩
    · rw [h] at hk'; exact h4 k' hk' hn
    · rw [h] at hk'; injection hk' with hk'; have := hN k' hn; omega
  · rcases Nat.lt_or_ge i xs.length with hi | hi
    · rw [List.getElem?_append_left hi] at hu
      exact h5 i u hu k' hk'
    · rw [List.getElem?_append_right hi] at hu
      have : i - xs.length = 0 := by
        have := (List.getElem?_eq_some_iff.1 hu).1
        simp at this
        omega
      rw [this] at hu
      simp at hu
      subst hu
      exact (hvb k' hk').2
theorem sls_of {w : World} {xs : List Value} {ls : List (List Int)} (h : LnV w xs ls) : ∃ lv : List RS.Sl, lv.map RS.Sl.v = xs := by
  have : ∀ xs : List Value, (∀ v ∈ xs, ∃ s : RS.Sl, s.v = v) → ∃ lv : List RS.Sl, lv.map RS.Sl.v = xs := by
    intro xs
    induction xs with
    | nil => exact fun _ => ⟨[], rfl⟩
    | cons v xs ih =>
      intro hh
      obtain ⟨s, hs⟩ := hh v List.mem_cons_self
      obtain ⟨lv, hlv⟩ := ih (fun u hu => hh u (List.mem_cons_of_mem _ hu))
      exact ⟨s :: lv, by simp [hs, hlv]⟩
  refine this xs fun v hv => ?_
  obtain ⟨i, hi, rfl⟩ := List.mem_iff_getElem.1 hv
  obtain ⟨v, h1, A, n, c, rfl, _⟩ := h.2 i (by rw [← h.1]; exact hi)
  rw [List.getElem?_eq_getElem hi] at h1
  injection h1 with h1
  exact ⟨⟨A, n, c⟩, h1.symm⟩
theorem lns_last {wr w8 : World} {b z8 c8 d : Nat} {O3 A8 : Option Addr} {n3 d3 base : Nat} {N M : List Nat} {xs : List Value} {lv : List RS.Sl} {L : List (List Int)} (h1 : LnO wr b (Value.slice O3 n3 d3).ownBlock xs L) (h5 : ∀ (i : Nat) v, xs[i]? = some v → ∀ k, v.ownBlock = some k → k ∉ N)
    (hlv : lv.map RS.Sl.v = xs) (he : Ext wr w8) (hO : RS.OwnS w8 base A8 z8 c8 (lv.drop d)) (hbs : base = wr.heap.size) (hbb : b ≤ base) (hMN : ∀ k, k ∈ M → k ∈ N ∧ k < wr.heap.size) : LnsN w8 b M A8 z8 c8 (L.drop d) := by
  subst hbs
  have hrow : ∀ k, (Value.slice A8 z8 c8).ownBlock = some k → wr.heap.size ≤ k := fun k hk => (Own.blk hO k hk).1
  have hget : ∀ i, ((lv.drop d).map RS.Sl.v)[i]? = xs[d + i]? := fun i => by rw [List.map_drop, hlv, List.getElem?_drop]
  have hgl : ∀ i, gL (L.drop d) i = gL L (d + i) := fun i => by unfold gL; rw [List.getElem?_drop]
  refine ⟨(lv.drop d).map RS.Sl.v, Own.lower hO hbb, ⟨?_, fun i hi => ?_⟩, Own.nocap' hO, fun k hk hn => ?_, fun i v hv k hk hn => ?_⟩
  · rw [List.map_drop, hlv, List.length_drop, List.length_drop, h1.1]
  · rw [List.length_drop] at hi
    obtain ⟨v, k1, k2, _⟩ := h1.2 (d + i) (by omega)
    refine ⟨v, by rw [hget]; exact k1, by rw [hgl]; exact k2.ext he, ?_⟩
    cases hb : v.ownBlock with
    | none => exact .inl rfl
    | some g => exact .inr (fun e => by have := (k2.blk g hb).2; have := hrow g e.symm; omega)
  · have := hrow k hk
    have := (hMN k hn).2
    omega
  · rw [hget] at hv
    exact h5 _ v hv k hk (hMN k hn).1
end Go.Proofs.Ytbhbakejpgndmaa
