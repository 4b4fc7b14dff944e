/-
  Worlds in which nothing but some blocks has turned.
-/
import Derived.Test.YtdkjkcegchohfaaBase
namespace Go.Proofs.Ytdkjkcegchohfaa
open Go.RowKit
set_option linter.unusedVariables false
set_option linter.unusedSimpArgs false

/-- Nothing has turned but these blocks; new ones may have come. -/
def Eqv (N : List Nat) (w w' : World) : Prop := w.heap.size ≤ w'.heap.size ∧ ∀ k, k < w.heap.size → k ∉ N → w'.heap[k]? = w.heap[k]?
section
variable {N : List Nat} {w w' w'' : World} {base e z n c : Nat} {A : Option Addr} {xs : List Value}
theorem Ext.eqv (h : Ext w w') (N : List Nat) : Eqv N w w' := ⟨h.hsize, fun k hk _ => Below.block h k hk⟩
theorem Eqv.refl (N : List Nat) (w : World) : Eqv N w w := ⟨Nat.le_refl _, fun _ _ _ => rfl⟩
theorem Eqv.trans (h : Eqv N w w') (k : Eqv N w' w'') : Eqv N w w'' := ⟨Nat.le_trans h.1 k.1, fun j hj hn => (k.2 j (Nat.lt_of_lt_of_le hj h.1) hn).trans (h.2 j hj hn)⟩
theorem Eqv.wider {M : List Nat} (h : Eqv N w w') (hm : ∀ k, k ∈ N → k ∈ M) : Eqv M w w' := ⟨h.1, fun k hk hn => h.2 k hk (fun hh => hn (hm k hh))⟩
theorem Eqv.setCell (w : World) (p : Addr) (u : Value) (hp : p.block ∈ N) : Eqv N w (w.setCell p u) := by
  refine ⟨by simp, fun k _ hn => ?_⟩
  unfold World.setCell
  rw [Array.getElem?_modify, if_neg (fun e => hn (by rw [← e]; exact hp))]
theorem Eqv.grown {row : Option Nat} (hg : w.grownBy w' row) (hr : ∀ k, row = some k → k ∈ N) : Eqv N w w' :=
  ⟨hg.size, fun k hk hn => hg.block k hk (fun e => hn (hr k e.symm))⟩
theorem Own.eqv (h : Own w base e z A n c xs) (he : Eqv N w w') (hb : ∀ k, (Value.slice A n c).ownBlock = some k → k ∉ N) : Own w' base e z A n c xs := by
  obtain ⟨h1, h2⟩ := h
  refine ⟨h1, ?_⟩
  rcases h2 with h2 | ⟨g, cap, cur, hv, hbb, hg, r⟩
  · exact .inl h2
  · refine .inr ⟨g, cap, cur, hv, hbb, ?_, r⟩
    injection hv with hA _ _
    subst hA
    rw [he.2 g (Array.getElem?_eq_some_iff.1 hg).1 (hb g rfl)]
    exact hg
theorem Blk.eqv {g t : Nat} {cs : Array Value} (h : Blk w g t cs) (he : Eqv N w w') (hg : g ∉ N) : Blk w' g t cs := (he.2 g h.lt hg).trans h
/-- Rows of unlike elements lie in unlike blocks. -/
theorem Own.unlike {base' e' z' n' c' : Nat} {A' : Option Addr} {xs' : List Value} (h : Own w base e z A n c xs) (h' : Own w base' e' z' A' n' c' xs') (hne : e ≠ e') (k : Nat) (hk : (Value.slice A n c).ownBlock = some k) : (Value.slice A' n' c').ownBlock ≠ some k := by
  intro hk'
  rcases h.2 with ⟨hv, _⟩ | ⟨g, cap, cur, hv, _, hg, _⟩
  · injection hv with hA _ _
    subst hA
    cases hk
  rcases h'.2 with ⟨hv', _⟩ | ⟨g', cap', cur', hv', _, hg', _⟩
  · injection hv' with hA _ _
    subst hA
    cases hk'
  injection hv with hA _ _
  subst hA
  injection hv' with hA _ _
  subst hA
  injection hk with hk
  injection hk' with hk'
  have : g = g' := by
    have h1 : g = k := hk
    have h2 : g' = k := hk'
    omega
  subst this
  rw [hg] at hg'
  injection hg' with hg'
  injection hg' with _ h1
  exact hne h1
end
end Go.Proofs.Ytdkjkcegchohfaa
