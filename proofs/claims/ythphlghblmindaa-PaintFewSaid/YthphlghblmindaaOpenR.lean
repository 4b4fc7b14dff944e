/-
  An argument that is a row of a terminal, opened.
-/
import Derived.Test.YthphlghblmindaaShell
import Derived.Test.YthphlghblmindaaTermX
import Derived.Deep.Fields
import Derived.ChangeSame
namespace Go.Proofs.Ythphlghblmindaa
open Go.ChangeShapes Go.WideShapes Go.ChangeAt Go.RowKit Go.WideElems Go.Deep
set_option linter.unusedVariables false

/-- A struct of a slice of ints and an int. -/
def rowB (P : Program) (t s i : TypeId) : Bool :=
  match P.underlying t with
  | some (.struct fs) => oneCellFields P fs && fs.size == 2 && P.cellsOf t == 2 && ((fs[0]?).map (·.type) == some s) && ((fs[1]?).map (·.type) == some i)
  | _ => false
set_option maxRecDepth 20000 in
theorem row_type : rowB Try.prog 34 22 3 = true := by kernel_rfl

set_option maxRecDepth 20000 in
theorem open_row {H : Type} {enc : TypeId × Value → H} {W : World} {base b0 : Nat} {r : Reach} {v : Value} {d : DataW H} {p : List MemPlace}
    (hv : Value.okWide Try.prog W r b0 34 v) (h : DataW.Trod enc Try.prog W base (fun _ => true) true 34 v d p) :
    ∃ A n c l a, v = .agg #[.slice A n c, .int .i64 a] ∧ Ints W A n c l ∧ (A = none → c = 0) := by
  have hB := row_type
  unfold rowB at hB
  split at hB
  · rename_i fs hfs
    simp only [Bool.and_eq_true, beq_iff_eq] at hB
    obtain ⟨⟨⟨⟨hone, hsz⟩, hce⟩, h0⟩, h1⟩ := hB
    obtain ⟨cs, rfl, hcz⟩ := okWide_struct hfs hv
    obtain ⟨fuel, hf⟩ := h
    obtain ⟨xs, n', _, hx, hl, hxs, hall⟩ := DataW.trod_struct hfs hf
    obtain ⟨f0, hf0, ht0⟩ := Option.map_eq_some_iff.1 h0
    obtain ⟨f1, hf1, ht1⟩ := Option.map_eq_some_iff.1 h1
    obtain ⟨u0, u1, rfl⟩ : ∃ u0 u1, cs = #[u0, u1] := by
      have h2 : cs.size = 2 := by omega
      refine ⟨cs[0]'(by omega), cs[1]'(by omega), ?_⟩
      apply Array.ext
      · simpa using h2
      · intro i h3 h4
        have : i = 0 ∨ i = 1 := by omega
        rcases this with rfl | rfl <;> rfl
    obtain ⟨o0, k0⟩ := hone_of hone 0 f0 hf0
    obtain ⟨o1, k1⟩ := hone_of hone 1 f1 hf1
    have t0 := hall 0 f0 hf0
    have t1 := hall 1 f1 hf1
    rw [o0, k0, ht0, List.getElem?_eq_getElem (by omega : 0 < xs.length)] at t0
    rw [o1, k1, ht1, List.getElem?_eq_getElem (by omega : 1 < xs.length)] at t1
    rw [show (List.take 1 (List.drop 0 (Value.agg #[u0, u1]).cells.toList)) = [u0] from rfl] at t0
    rw [show (List.take 1 (List.drop 1 (Value.agg #[u0, u1]).cells.toList)) = [u1] from rfl] at t1
    obtain ⟨z1, hz1, _, _⟩ := DataW.trod_int Try.underlying3 t1
    injection hz1 with hz1
    subst hz1
    rcases open_ints Try.underlying22 Try.underlying3 cells_int t0 with ⟨hcs, _⟩ | ⟨b, k, q, zs, hcs, _, hk, hq, hzl, _, hcell, _⟩
    · injection hcs with hcs
      subst hcs
      exact ⟨none, 0, 0, [], z1, rfl, Ints.none_ W, fun _ => rfl⟩
    · injection hcs with hcs
      subst hcs
      simp only [if_true] at hzl
      refine ⟨some b, k, q, zs.take k, z1, rfl, ⟨by simp; omega, hk, hq, fun _ => ⟨b, rfl, fun j u hu => ?_⟩⟩, nofun⟩
      have hj := (List.getElem?_eq_some_iff.1 hu).1
      simp at hj
      rw [hcell j (by omega)]
      rw [← hu]
      simp [show j < k by omega, show j < zs.length by omega]
  · cases hB
end Go.Proofs.Ythphlghblmindaa
