/-
  Words of registers: an array of slices of numbers in one block; a whole row is stored.
-/
import Derived.Test.YtdkjkcegchohfaaClone
import Derived.Laws.CopyOwn
import Derived.Laws.Tables
import Derived.Laws.Rows
namespace Go.Proofs.Ytdkjkcegchohfaa
open Go.RowKit
set_option linter.unusedVariables false
set_option linter.unusedSimpArgs false

/-- A value that is a slice of these numbers. -/
def RegSl (w : World) (v : Value) (l : List Int) : Prop := ∃ A n c, v = .slice A n c ∧ Ints w A n c l ∧ (A = none → c = 0) ∧ n * 8 ≤ 140737488355328
/-- The same, in memory of the call's own. -/
def RegOw (w : World) (b : Nat) (v : Value) (l : List Int) : Prop := ∃ A n c, v = .slice A n c ∧ OwnI w b A n c l ∧ (A = none → c = 0) ∧ n * 8 ≤ 140737488355328
/-- Registers. -/
def Regs (w : World) (cs : Array Value) (rs : Nat → List Int) : Prop := cs.size = 27 ∧ ∀ i, i < 27 → ∃ v, cs[i]? = some v ∧ RegSl w v (rs i)
def RegsO (w : World) (b : Nat) (cs : Array Value) (rs : Nat → List Int) : Prop := cs.size = 27 ∧ ∀ i, i < 27 → ∃ v, cs[i]? = some v ∧ RegOw w b v (rs i)

section
variable {w w' : World} {v : Value} {l : List Int} {b : Nat} {cs : Array Value} {rs : Nat → List Int}
theorem RegSl.ext (h : RegSl w v l) (he : Ext w w') : RegSl w' v l := by
  obtain ⟨A, n, c, rfl, h1, h2, h3⟩ := h
  exact ⟨A, n, c, rfl, h1.ext he, h2, h3⟩
theorem RegOw.ext (h : RegOw w b v l) (he : Ext w w') : RegOw w' b v l := by
  obtain ⟨A, n, c, rfl, h1, h2, h3⟩ := h
  exact ⟨A, n, c, rfl, h1.ext he, h2, h3⟩
theorem RegOw.sl (h : RegOw w b v l) : RegSl w v l := by
  obtain ⟨A, n, c, rfl, h1, h2, h3⟩ := h
  exact ⟨A, n, c, rfl, h1.ints, h2, h3⟩
theorem RegOw.lower {b' : Nat} (h : RegOw w b v l) (hb : b' ≤ b) : RegOw w b' v l := by
  obtain ⟨A, n, c, rfl, h1, h2, h3⟩ := h
  exact ⟨A, n, c, rfl, Own.lower h1 hb, h2, h3⟩
theorem RegOw.nil (w : World) (b : Nat) : RegOw w b (.slice none 0 0) [] := ⟨none, 0, 0, rfl, OwnI.nil _ _, fun _ => rfl, by omega⟩
theorem RegOw.setCell (h : RegOw w b v l) {p : Addr} (hp : p.block < b) (u : Value) : RegOw (w.setCell p u) b v l := by
  obtain ⟨A, n, c, rfl, h1, h2, h3⟩ := h
  exact ⟨A, n, c, rfl, Own.setCell h1 hp u, h2, h3⟩
theorem Own.setRow {base e z n c : Nat} {A : Option Addr} {xs : List Value} (h : Own w base e z A n c xs) {g : Nat} (hg : g < base) (us : Array Value) : Own (w.setRow g us) base e z A n c xs := by
  obtain ⟨h1, h2⟩ := h
  refine ⟨h1, ?_⟩
  rcases h2 with h2 | ⟨g', cap, cur, hv, hb, hg', r⟩
  · exact .inl h2
  · exact .inr ⟨g', cap, cur, hv, hb, (setRow_other w g g' us (by omega)).trans hg', r⟩
theorem RegOw.setRow (h : RegOw w b v l) {g : Nat} (hg : g < b) (us : Array Value) : RegOw (w.setRow g us) b v l := by
  obtain ⟨A, n, c, rfl, h1, h2, h3⟩ := h
  exact ⟨A, n, c, rfl, Own.setRow h1 hg us, h2, h3⟩
theorem Regs.ext (h : Regs w cs rs) (he : Ext w w') : Regs w' cs rs := ⟨h.1, fun i hi => by obtain ⟨v, h1, h2⟩ := h.2 i hi; exact ⟨v, h1, h2.ext he⟩⟩
theorem RegsO.ext (h : RegsO w b cs rs) (he : Ext w w') : RegsO w' b cs rs := ⟨h.1, fun i hi => by obtain ⟨v, h1, h2⟩ := h.2 i hi; exact ⟨v, h1, h2.ext he⟩⟩
theorem RegsO.regs (h : RegsO w b cs rs) : Regs w cs rs := ⟨h.1, fun i hi => by obtain ⟨v, h1, h2⟩ := h.2 i hi; exact ⟨v, h1, h2.sl⟩⟩
theorem RegsO.lower {b' : Nat} (h : RegsO w b cs rs) (hb : b' ≤ b) : RegsO w b' cs rs := ⟨h.1, fun i hi => by obtain ⟨v, h1, h2⟩ := h.2 i hi; exact ⟨v, h1, h2.lower hb⟩⟩
theorem RegsO.setRow (h : RegsO w b cs rs) {g : Nat} (hg : g < b) (us : Array Value) : RegsO (w.setRow g us) b cs rs := ⟨h.1, fun i hi => by obtain ⟨v, h1, h2⟩ := h.2 i hi; exact ⟨v, h1, h2.setRow hg us⟩⟩
theorem RegsO.setCell (h : RegsO w b cs rs) {p : Addr} (hp : p.block < b) (u : Value) : RegsO (w.setCell p u) b cs rs := ⟨h.1, fun i hi => by obtain ⟨v, h1, h2⟩ := h.2 i hi; exact ⟨v, h1, h2.setCell hp u⟩⟩
theorem Regs.one (h : Regs w cs rs) : cs.all (·.oneCell') = true := by
  rw [Array.all_eq_true]
  intro i hi
  obtain ⟨v, h1, A, n, c, rfl, _⟩ := h.2 i (by have := h.1; omega)
  rw [Array.getElem?_eq_getElem hi] at h1
  injection h1 with h1
  rw [h1]
  rfl
theorem Ext.setRow {w x : World} (h : Ext w x) {g : Nat} (hg : w.heap.size ≤ g) (us : Array Value) : Ext w (x.setRow g us) := below_setRow h hg us
theorem Blk.setRow {g : Nat} {t : TypeId} {old : Array Value} (h : Blk w g t old) (us : Array Value) : Blk (w.setRow g us) g t us := setRow_heap w g old us t _ h
theorem Blk.setRow_other {g g' : Nat} {t : TypeId} {old : Array Value} (h : Blk w g t old) (us : Array Value) (hne : g ≠ g') : Blk (w.setRow g' us) g t old := (Go.setRow_other w g' g us hne).trans h
end

theorem set_other {w : World} {g g' : Nat} {t : TypeId} {cs : Array Value} (h : Blk w g t cs) (hne : g' ≠ g) (i : Nat) (u : Value) : Blk (w.setCell ⟨g', i, none⟩ u) g t cs := by
  unfold Blk at h ⊢
  simp [World.setCell, Array.getElem?_modify, h, hne]
/-- The block in which a register's row lies. -/
def ownB (a : Array Value) (j : Nat) : Option Nat := (a[j]?.getD (.slice none 0 0)).ownBlock
/-- No two of the first n registers lie in one block. -/
def Apart (a : Array Value) (n : Nat) : Prop := ∀ j k g, j < n → k < n → j ≠ k → ownB a j = some g → ownB a k ≠ some g
theorem ownB_set_self {a : Array Value} {i : Nat} {v : Value} (h : i < a.size) : ownB (a.setIfInBounds i v) i = v.ownBlock := by
  unfold ownB; rw [Array.getElem?_setIfInBounds_self, if_pos h]; rfl
theorem ownB_set_ne {a : Array Value} {i j : Nat} {v : Value} (h : i ≠ j) : ownB (a.setIfInBounds i v) j = ownB a j := by
  unfold ownB; rw [Array.getElem?_setIfInBounds_ne h]
theorem RegOw.blk {w : World} {b : Nat} {v : Value} {l : List Int} (h : RegOw w b v l) : ∀ g, v.ownBlock = some g → b ≤ g ∧ g < w.heap.size := by
  obtain ⟨A, n, c, rfl, h1, _⟩ := h
  exact Own.blk h1
theorem Apart.snoc {a : Array Value} {i m : Nat} {v : Value} (h : Apart a i) (hi : i < a.size) (hold : ∀ j g, j < i → ownB a j = some g → g < m) (hnew : ∀ g, v.ownBlock = some g → m ≤ g) : Apart (a.setIfInBounds i v) (i + 1) := by
  intro j k g hj hk hjk h1 h2
  by_cases hji : j = i
  · subst hji
    rw [ownB_set_self hi] at h1
    rw [ownB_set_ne hjk] at h2
    have := hnew g h1
    have := hold k g (by omega) h2
    omega
  · rw [ownB_set_ne (fun e => hji e.symm)] at h1
    by_cases hki : k = i
    · subst hki
      rw [ownB_set_self hi] at h2
      have := hnew g h2
      have := hold j g (by omega) h1
      omega
    · rw [ownB_set_ne (fun e => hki e.symm)] at h2
      exact h j k g (by omega) (by omega) hjk h1 h2
/-- No registers. -/
def noRegs : Array Value := Array.replicate 27 (.slice none 0 0)
theorem noRegs_own (w : World) (b : Nat) : RegsO w b noRegs (fun _ => []) := ⟨rfl, fun i hi => ⟨.slice none 0 0, by unfold noRegs; rw [Array.getElem?_replicate, if_pos hi], RegOw.nil _ _⟩⟩
end Go.Proofs.Ytdkjkcegchohfaa
