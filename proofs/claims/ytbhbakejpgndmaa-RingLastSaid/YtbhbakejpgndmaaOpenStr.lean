/-
  An argument that is a slice of strings, opened.
-/
import Derived.Test.YtbhbakejpgndmaaShell
import Derived.Test.YtbhbakejpgndmaaRingM
import Derived.SizedLaws
import Derived.SliceStrings
namespace Go.Proofs.Ytbhbakejpgndmaa
open Go.ChangeShapes Go.WideShapes Go.ChangeAt Go.RowKit Go.WideElems
set_option linter.unusedVariables false

theorem cells_string : Try.prog.cellsOf 9 = 1 := by kernel_rfl
theorem reach_numS : reachBytes = 140737488351232 := by decide
theorem open_strsl {H : Type} {enc : TypeId × Value → H} {P : Program} {W : World} {base b0 : Nat} {r : Reach} {t e : TypeId} {v : Value} {d : DataW H} {p : List MemPlace} (ht : P.underlying t = some (.slice e)) (he : P.underlying e = some .string) (hc : P.cellsOf e = 1)
    (hv : Value.okWide P W r b0 t v) (h : DataW.Trod enc P W base (fun _ => true) true t v d p) :
    ∃ A n c l, v = .slice A n c ∧ Strs W A n c l ∧ ((d = .nil ∧ n = 0 ∧ c = 0) ∨ ∃ xs rest, d = .slice xs rest ∧ xs.length = n) ∧ (A = none → c = 0) := by
  obtain ⟨a0, len, cap, rfl⟩ := okWide_slice ht hv
  obtain ⟨fuel, hf⟩ := h
  rcases open_strings ht he hc hf with ⟨hcs, hx⟩ | ⟨a, len', cap', ss, hcs, _, hl, hm, hz, hx, hcell, _⟩
  · simp [Value.cells] at hcs
    obtain ⟨rfl, rfl, rfl⟩ := hcs
    simp only [Prod.mk.injEq] at hx
    exact ⟨none, 0, 0, [], rfl, Strs.none_ W, .inl ⟨hx.1, rfl, rfl⟩, fun _ => rfl⟩
  · simp [Value.cells] at hcs
    obtain ⟨rfl, rfl, rfl⟩ := hcs
    simp only [if_true] at hz
    simp only [Prod.mk.injEq] at hx
    refine ⟨some a, len, cap, ss.take len, rfl, ⟨by simp; omega, hl, hm, fun _ => ⟨a, rfl, fun j u hu => ?_⟩⟩, .inr ⟨_, _, hx.1, by simp [strs]; omega⟩, nofun⟩
    have hj := (List.getElem?_eq_some_iff.1 hu).1
    simp at hj
    rw [hcell j (by omega)]
    rw [← hu]
    simp [show j < len by omega, show j < ss.length by omega]
theorem sized_strs {H : Type} {P : Program} {ts : List TypeId} {ds : List (DataW H)} (h : (DataW.weightsEach P ts ds).all (· ≤ reachBytes) = true) {j : Nat} {t e : TypeId} {d : DataW H} {n c : Nat}
    (ht : ts[j]? = some t) (hd : ds[j]? = some d) (hu : P.underlying t = some (.slice e)) (hb : P.bytesOf e = 16)
    (he : (d = .nil ∧ n = 0 ∧ c = 0) ∨ ∃ xs rest, d = .slice xs rest ∧ xs.length = n) : n * 16 ≤ 140737488351232 := by
  rcases he with ⟨_, rfl, _⟩ | ⟨xs, rest, rfl, hl⟩
  · omega
  · have := sized_slice h ht hd hu
    rw [hb, reach_numS] at this
    rw [hl] at this
    omega
end Go.Proofs.Ytbhbakejpgndmaa
