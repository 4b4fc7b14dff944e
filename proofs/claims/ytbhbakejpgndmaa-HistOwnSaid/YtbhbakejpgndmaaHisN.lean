/-
  A history that stays, whatever becomes of a line that was told with it.
-/
import Derived.Test.YtbhbakejpgndmaaHisD
namespace Go.Proofs.Ytbhbakejpgndmaa
open Go.RowKit
set_option linter.unusedVariables false

section
variable {w w' : World} {b : Nat}
theorem Own.win {e z n c : Nat} {A : Option Addr} {xs : List Value} (h : Own w b e z A n c xs) (hw : ∀ k, b ≤ k → k < w.heap.size → w'.heap[k]? = w.heap[k]?) : Own w' b e z A n c xs := by
  obtain ⟨h1, h2⟩ := h
  rcases h2 with ⟨hv, h0⟩ | ⟨g, cap, cur, hv, hb, hg, h3⟩
  · exact ⟨h1, .inl ⟨hv, h0⟩⟩
  · exact ⟨h1, .inr ⟨g, cap, cur, hv, hb, (hw g hb (Array.getElem?_eq_some_iff.1 hg).1).trans hg, h3⟩⟩
theorem Own.same {e z n c : Nat} {A : Option Addr} {xs : List Value} (h : Own w b e z A n c xs) (hw : ∀ k, (Value.slice A n c).ownBlock = some k → w'.heap[k]? = w.heap[k]?) : Own w' b e z A n c xs := by
  obtain ⟨h1, h2⟩ := h
  rcases h2 with ⟨hv, h0⟩ | ⟨g, cap, cur, hv, hb, hg, h3⟩
  · exact ⟨h1, .inl ⟨hv, h0⟩⟩
  · exact ⟨h1, .inr ⟨g, cap, cur, hv, hb, (hw g (by rw [hv]; rfl)).trans hg, h3⟩⟩
theorem RegOw.win {v : Value} {l : List Int} (h : RegOw w b v l) (hw : ∀ k, b ≤ k → k < w.heap.size → w'.heap[k]? = w.heap[k]?) : RegOw w' b v l := by
  obtain ⟨A, n, c, rfl, h1, h2⟩ := h
  exact ⟨A, n, c, rfl, Own.win h1 hw, h2⟩
theorem LnsO.win {A : Option Addr} {n c : Nat} {ls : List (List Int)} (h : LnsO w b A n c ls) (hw : ∀ k, b ≤ k → k < w.heap.size → w'.heap[k]? = w.heap[k]?) : LnsO w' b A n c ls := by
  obtain ⟨xs, h1, ⟨h2, h3⟩, h4⟩ := h
  refine ⟨xs, Own.win h1 hw, ⟨h2, fun i hi => ?_⟩, h4⟩
  obtain ⟨v, e1, e2, e3⟩ := h3 i hi
  exact ⟨v, e1, e2.win hw, e3⟩
theorem HisO.win {v : Value} {h : Hi} (hh : HisO w b v h) (hw : ∀ k, b ≤ k → k < w.heap.size → w'.heap[k]? = w.heap[k]?) : HisO w' b v h := by
  obtain ⟨A, n, c, S, sn, sc, P, pn, pc, rfl, h1, h2, h3⟩ := hh
  exact ⟨A, n, c, S, sn, sc, P, pn, pc, rfl, h1.win hw, h2.win hw, h3.win hw⟩
end
/-- v reads as h, in blocks from b on; the blocks of L are none of its. -/
def HisN (w : World) (b : Nat) (L v : Value) (h : Hi) : Prop := ∀ w' : World, (∀ k, b ≤ k → k < w.heap.size → L.ownBlock ≠ some k → w'.heap[k]? = w.heap[k]?) → HisO w' b v h
theorem HisN.self {w : World} {b : Nat} {L v : Value} {h : Hi} (hh : HisN w b L v h) : HisO w b v h := hh w fun _ _ _ _ => rfl
theorem HisN.keep {w w' : World} {b : Nat} {L v : Value} {h : Hi} (hh : HisN w b L v h) (hs : w.heap.size ≤ w'.heap.size) (hw : ∀ k, b ≤ k → k < w.heap.size → L.ownBlock ≠ some k → w'.heap[k]? = w.heap[k]?) : HisN w' b L v h :=
  fun w'' h2 => hh w'' fun k h3 h4 h5 => (h2 k h3 (by omega) h5).trans (hw k h3 h4 h5)
theorem HisN.ext {w w' : World} {b : Nat} {L v : Value} {h : Hi} (hh : HisN w b L v h) (he : Ext w w') : HisN w' b L v h := hh.keep he.hsize fun k _ h2 _ => he.block k h2
theorem HisN.lower {w : World} {b b' : Nat} {L v : Value} {h : Hi} (hh : HisN w b L v h) (hb : b' ≤ b) : HisN w b' L v h :=
  fun w' h2 => (hh w' fun k h3 h4 h5 => h2 k (by omega) h4 h5).lower hb
theorem HisN.of {w : World} {b : Nat} {L v : Value} {h : Hi} (hh : HisO w b v h) (hL : ∀ k, L.ownBlock = some k → w.heap.size ≤ k) : HisN w b L v h :=
  fun w' h2 => hh.win fun k h3 h4 => h2 k h3 h4 fun e => by have := hL k e; omega
theorem HisN.grown {w w' : World} {b g : Nat} {L v : Value} {h : Hi} (hh : HisN w b L v h) (hg : w.grownBy w' (some g)) (hn : g < b ∨ L.ownBlock = some g) : HisN w' b L v h :=
  hh.keep hg.size fun k h1 h2 h3 => hg.block k h2 (fun e => by
    injection e with e; subst e
    rcases hn with hn | hn
    · omega
    · exact h3 hn)
theorem setCell_block {w : World} {p : Addr} {u : Value} {k : Nat} (h : k ≠ p.block) : (w.setCell p u).heap[k]? = w.heap[k]? := by
  show (w.heap.modify p.block _)[k]? = _
  rw [Array.getElem?_modify, if_neg (fun e => h e.symm)]
theorem setCell_size (w : World) (p : Addr) (u : Value) : (w.setCell p u).heap.size = w.heap.size := by simp [World.setCell]
theorem HisN.setCell {w : World} {b : Nat} {L v : Value} {h : Hi} (hh : HisN w b L v h) {p : Addr} (hp : p.block < b) (u : Value) : HisN (w.setCell p u) b L v h :=
  hh.keep (by rw [setCell_size]; exact Nat.le_refl _) fun k h1 _ _ => setCell_block (by omega)
theorem HisN.pat {w : World} {b : Nat} {L : Value} {O S P2 B : Option Addr} {n c sn sc pn2 pc2 t z : Nat} {mo at_ : Int} {ol ol' : Bool} {h : Hi} {p : List Int} (hh : HisN w b L (.agg (hisC O n c mo at_ S sn sc P2 pn2 pc2 ol)) h)
    (hp : RegOw w b (.slice B t z) p) (hne : ∀ g, (Value.slice B t z).ownBlock = some g → L.ownBlock ≠ some g) : HisN w b L (.agg (hisC O n c mo at_ S sn sc B t z ol')) ⟨h.lines, h.most, h.at_, h.scratch, p, ol'⟩ := by
  intro w' h2
  obtain ⟨ls, mo', at', sl, pl, ol2⟩ := h
  obtain ⟨A', n', c', S', sn', sc', P', pn', pc', e, h3, h4, h5⟩ := hh w' h2
  simp only [hisC, Value.agg.injEq, Array.mk.injEq, List.cons.injEq, Value.slice.injEq, Value.int.injEq, Value.bool.injEq, and_true, true_and] at e
  obtain ⟨⟨rfl, rfl, rfl⟩, rfl, rfl, ⟨rfl, rfl, rfl⟩, _, _⟩ := e
  obtain ⟨A, m, d, e, ho, h6⟩ := hp
  refine ⟨_, _, _, _, _, _, _, _, _, rfl, h3, h4, A, m, d, e, ?_, h6⟩
  injection e with e1 e2 e3
  subst e1; subst e2; subst e3
  exact Own.same ho fun k hk => h2 k (Own.blk ho k hk).1 (Own.blk ho k hk).2 (hne k hk)
end Go.Proofs.Ytbhbakejpgndmaa
