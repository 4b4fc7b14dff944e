/-
  A map from int to int that the call itself made, as a function with nought where there is no entry.
-/
import Derived.Test.YtbgegkagnahlpaaBase
import Derived.Maps.OwnOps
import Derived.Maps.Views
namespace Go.Proofs.Ytbgegkagnahlpaa
open Go.RowKit Go.Maps
set_option linter.unusedVariables false

theorem key_int : Keyed Try.prog 3 := int_keyed Try.underlying3
theorem zero_int (w : World) : (zeroValue 3).run Try.prog w = .ok (.int .i64 0) w := by kernel_rfl

/-- Block b is a map of at most n entries that answers f. -/
def MapI (w : World) (b n : Nat) (f : Int → Int) : Prop :=
  ∃ D : DataW Unit, w.ownsMap Try.prog 3 (plainElem Try.prog 3) b n D ∧ IsMap D ∧ ∀ k, (Lit.int .i64 k).wf = true → D.atKey (.int .i64 k) (.lit (.int .i64 0)) = .lit (.int .i64 (f k))

def updF (f : Int → Int) (k v : Int) : Int → Int := fun x => if x = k then v else f x
def noF : Int → Int := fun _ => 0

theorem MapI.made (w : World) : MapI (w.alloc (.map #[] 0)) w.heap.size 0 noF :=
  ⟨.map [], World.ownsMap_made w _ _ _, ⟨[], rfl⟩, fun _ _ => rfl⟩
theorem MapI.ext {w w' : World} {b n : Nat} {f : Int → Int} (h : MapI w b n f) (he : Ext w w') : MapI w' b n f := by
  obtain ⟨D, h1, h2, h3⟩ := h
  obtain ⟨es, clock, hb, r⟩ := h1
  exact ⟨D, ⟨es, clock, (Below.block he b (Array.getElem?_eq_some_iff.1 hb).1).trans hb, r⟩, h2, h3⟩
theorem MapI.congr {w : World} {b n : Nat} {f g : Int → Int} (h : MapI w b n f) (hg : ∀ k, f k = g k) : MapI w b n g := by
  obtain ⟨D, h1, h2, h3⟩ := h
  exact ⟨D, h1, h2, fun k hk => by rw [h3 k hk, hg k]⟩
theorem MapI.get {w : World} {b n : Nat} {f : Int → Int} (h : MapI w b n f) {t : Nat} (ht : Try.prog.underlying t = some (.map 3 3)) {k : Int} (hk : (Lit.int .i64 k).wf = true) :
    (Instr.lookup t (.map (some b)) (.int .i64 k) false).run Try.prog w = .ok (.int .i64 (f k)) w := by
  obtain ⟨D, h1, h2, h3⟩ := h
  obtain ⟨c, hrun, hat, _⟩ := h1.lookup_int key_int ht Try.underlying3 (zero_int w) (keyOf_int_mk Try.underlying3 hk)
  rw [h3 k hk] at hat
  rw [hrun]
  injection hat with hat
  injection hat with _ hat
  rw [hat]

/-- 'm[k] = v'. -/
theorem wpList_mapPut {w : World} {ops : Array Oper} {rest : List Oper} {o : Oper} {a : Act} {Q : Exit → Act → World → Prop} (hg : o.guard = none) (m x v : Operand) (t : TypeId) (hop : o.op = Op.mapUpdate t m x v)
    (ht : Try.prog.underlying t = some (.map 3 3)) (w0 : World) (b n : Nat) (f : Int → Int) (hm : a.eval m = .map (some b)) (hown : MapI w b n f) (hn : n < maxLen) (k u : Int)
    (hx : a.eval x = .int .i64 k) (hv : a.eval v = .int .i64 u) (hk : (Lit.int .i64 k).wf = true) (hu : (Lit.int .i64 u).wf = true) (he : Ext w0 w) (hb : w0.heap.size ≤ b)
    (h : ∀ w', MapI w' b (n + 1) (updF f k u) → w.grownBy w' (some b) → Ext w0 w' → wpList Try.prog ops Q rest (a.put o.dst undef) w') : wpList Try.prog ops Q (o :: rest) a w := by
  obtain ⟨D, h1, h2, h3⟩ := hown
  refine wpList_mapUpdate_own w hg m x v t hop 3 3 key_int ht _ b n D hm h1 hn _ _ (.int .i64 k) hx hv (keyOf_int_mk Try.underlying3 hk) (.lit (.int .i64 u)) [] (plainElem_int Try.underlying3 hu) ?_
  intro w' k1 k2
  refine h w' ⟨_, k1, h2.put _ _, fun x hx => ?_⟩ k2 (Below.grown he k2 he.size (fun j hj => by injection hj with hj; omega))
  unfold updF
  by_cases e : x = k
  · subst e
    rw [if_pos rfl, atKey_put_same h2 (show WideAt.IsKeyLit (.int .i64 x) from trivial)]
  · rw [if_neg e, atKey_put_other (by intro h; injection h with _ h; exact e h), h3 x hx]
/-- A store, as an equation that the walk takes: laid ahead of it. -/
theorem MapI.put {w w0 : World} {b n : Nat} {f : Int → Int} (hown : MapI w b n f) {t : Nat} (ht : Try.prog.underlying t = some (.map 3 3)) (hn : n < maxLen) (k u : Int)
    (hk : (Lit.int .i64 k).wf = true) (hu : (Lit.int .i64 u).wf = true) (he : Ext w0 w) (hb : w0.heap.size ≤ b) :
    ∃ w', (Instr.mapUpdate t (.map (some b)) (.int .i64 k) (.int .i64 u)).run Try.prog w = .ok () w' ∧ MapI w' b (n + 1) (updF f k u) ∧ w.grownBy w' (some b) ∧ Ext w0 w' := by
  obtain ⟨D, h1, h2, h3⟩ := hown
  obtain ⟨w', hrun, k1, k2⟩ := h1.update key_int ht hn (keyOf_int_mk Try.underlying3 hk) (plainElem_int Try.underlying3 hu)
  refine ⟨w', hrun, ⟨_, k1, h2.put _ _, fun x hx => ?_⟩, k2, Below.grown he k2 he.size (fun j hj => by injection hj with hj; omega)⟩
  unfold updF
  by_cases e : x = k
  · subst e
    rw [if_pos rfl, atKey_put_same h2 (show WideAt.IsKeyLit (.int .i64 x) from trivial)]
  · rw [if_neg e, atKey_put_other (by intro h; injection h with _ h; exact e h), h3 x hx]
theorem wf_i64 {x : Int} (h1 : -9223372036854775808 ≤ x) (h2 : x ≤ 9223372036854775807) : (Lit.int .i64 x).wf = true := by
  simp [Lit.wf, IntKind.min, IntKind.max, IntKind.signed, IntKind.bits]; omega
end Go.Proofs.Ytbgegkagnahlpaa
