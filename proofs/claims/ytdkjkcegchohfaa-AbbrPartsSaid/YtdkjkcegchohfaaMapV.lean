/-
  A map from int that the call itself made, its elements of any type of one cell, as a function from numbers to values.
-/
import Derived.Test.YtdkjkcegchohfaaBase
import Derived.Maps.OwnOps
import Derived.Maps.Views
namespace Go.Proofs.Ytdkjkcegchohfaa
open Go.RowKit Go.Maps
set_option linter.unusedVariables false
set_option linter.unusedSimpArgs false

theorem key_intV : Keyed Try.prog 3 := int_keyed Try.underlying3
/-- An element reads as itself. -/
def itself (v : Value) : Option (DataW Value × List MemPlace) := some (.held v, [])

/-- Block b is a map of at most n entries that answers f; z where there is none. -/
def MapV (w : World) (z : Value) (b n : Nat) (f : Int → Value) : Prop :=
  ∃ D : DataW Value, w.ownsMap Try.prog 3 itself b n D ∧ IsMap D ∧ ∀ k, (Lit.int .i64 k).wf = true → D.atKey (.int .i64 k) (.held z) = .held (f k)

def updV (f : Int → Value) (k : Int) (v : Value) : Int → Value := fun x => if x = k then v else f x
theorem updV_same (f : Int → Value) (k : Int) (v : Value) : updV f k v k = v := if_pos rfl
theorem updV_other (f : Int → Value) {k x : Int} (v : Value) (h : x ≠ k) : updV f k v x = f x := if_neg h

section
variable {w w' : World} {z : Value} {b n : Nat} {f : Int → Value}
theorem MapV.made (w : World) (z : Value) : MapV (w.alloc (.map #[] 0)) z w.heap.size 0 (fun _ => z) :=
  ⟨.map [], World.ownsMap_made w _ _ _, ⟨[], rfl⟩, fun _ _ => rfl⟩
theorem MapV.ext (h : MapV w z b n f) (he : Ext w w') : MapV w' z b n f := by
  obtain ⟨D, h1, h2, h3⟩ := h
  obtain ⟨es, clock, hb, r⟩ := h1
  exact ⟨D, ⟨es, clock, (Below.block he b (Array.getElem?_eq_some_iff.1 hb).1).trans hb, r⟩, h2, h3⟩
/-- While one row of cells is written. -/
theorem MapV.grown (h : MapV w z b n f) {row : Option Nat} (hg : w.grownBy w' row) (hr : some b ≠ row) : MapV w' z b n f := by
  obtain ⟨D, h1, h2, h3⟩ := h
  exact ⟨D, h1.kept hg hr, h2, h3⟩
theorem MapV.setCell (h : MapV w z b n f) {p : Addr} (hp : p.block ≠ b) (u : Value) : MapV (w.setCell p u) z b n f := by
  obtain ⟨D, h1, h2, h3⟩ := h
  obtain ⟨es, clock, hb, r⟩ := h1
  exact ⟨D, ⟨es, clock, (Below.heap_setCell w p u b (fun e => hp e.symm)).trans hb, r⟩, h2, h3⟩
theorem MapV.lt (h : MapV w z b n f) : b < w.heap.size := by obtain ⟨D, h1, _⟩ := h; exact h1.lt
theorem MapV.block (h : MapV w z b n f) : ∃ es clock, w.heap[b]? = some (.map es clock) := by
  obtain ⟨D, ⟨es, clock, hb, _⟩, _⟩ := h
  exact ⟨es, clock, hb⟩
/-- A row of the call's own is no map. -/
theorem MapV.ne_own (h : MapV w z b n f) {base e y k c : Nat} {A : Option Addr} {xs : List Value} (ho : Own w base e y A k c xs) : some b ≠ (Value.slice A k c).ownBlock := by
  obtain ⟨es, clock, hb⟩ := h.block
  rcases ho.2 with ⟨hv, _⟩ | ⟨g, cap, cur, hv, _, hg, _⟩
  · rw [hv]; simp [Value.ownBlock]
  · rw [hv]
    intro e
    simp [Value.ownBlock] at e
    subst e
    rw [hb] at hg
    cases hg
theorem MapV.get (h : MapV w z b n f) {t e : Nat} (ht : Try.prog.underlying t = some (.map 3 e)) (hz : (zeroValue e).run Try.prog w = .ok z w) {k : Int} (hk : (Lit.int .i64 k).wf = true) :
    (Instr.lookup t (.map (some b)) (.int .i64 k) false).run Try.prog w = .ok (f k) w := by
  obtain ⟨D, h1, h2, h3⟩ := h
  obtain ⟨v, ps, hrun, hv⟩ := h1.lookup key_intV ht hz (show itself z = some (.held z, []) from rfl) (keyOf_int_mk Try.underlying3 hk)
  rw [h3 k hk] at hv
  simp only [itself, Option.some.injEq, Prod.mk.injEq, DataW.held.injEq] at hv
  rw [hrun, hv.1]
theorem MapV.put {w0 : World} (h : MapV w z b n f) {t e : Nat} (ht : Try.prog.underlying t = some (.map 3 e)) (hn : n < maxLen) (k : Int) (v : Value)
    (hk : (Lit.int .i64 k).wf = true) (he : Ext w0 w) (hb : w0.heap.size ≤ b) :
    ∃ w', (Instr.mapUpdate t (.map (some b)) (.int .i64 k) v).run Try.prog w = .ok () w' ∧ MapV w' z b (n + 1) (updV f k v) ∧ w.grownBy w' (some b) ∧ Ext w0 w' := by
  obtain ⟨D, h1, h2, h3⟩ := h
  obtain ⟨w', hrun, k1, k2⟩ := h1.update key_intV ht hn (keyOf_int_mk Try.underlying3 hk) (show itself v = some (.held v, []) from rfl)
  refine ⟨w', hrun, ⟨_, k1, h2.put _ _, fun x hx => ?_⟩, k2, Below.grown he k2 he.size (fun j hj => by injection hj with hj; omega)⟩
  unfold updV
  by_cases e : x = k
  · subst e
    rw [if_pos rfl, atKey_put_same h2 (show WideAt.IsKeyLit (.int .i64 x) from trivial)]
  · rw [if_neg e, atKey_put_other (by intro h; injection h with _ h; exact e h), h3 x hx]
end
theorem wf_i64' {x : Int} (h1 : -9223372036854775808 ≤ x) (h2 : x ≤ 9223372036854775807) : (Lit.int .i64 x).wf = true := by
  simp [Lit.wf, IntKind.min, IntKind.max, IntKind.signed, IntKind.bits]; omega
end Go.Proofs.Ytdkjkcegchohfaa
