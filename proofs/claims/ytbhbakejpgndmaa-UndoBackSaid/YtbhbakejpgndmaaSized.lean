/-
  What the reach gives of an argument that is a slice of ints.
-/
import Derived.Test.YtbhbakejpgndmaaShell
import Derived.SizedLaws
namespace Go.Proofs.Ytbhbakejpgndmaa
open Go.ChangeShapes Go.WideShapes Go.ChangeAt Go.RowKit Go.WideElems
set_option linter.unusedVariables false

theorem reach_num : reachBytes = 140737488351232 := by decide
theorem sized_ints {H : Type} {P : Program} {ts : List TypeId} {ds : List (DataW H)} (h : (DataW.weightsEach P ts ds).all (· ≤ reachBytes) = true) {j : Nat} {t e : TypeId} {d : DataW H} {l : List Int} {n c : Nat}
    (ht : ts[j]? = some t) (hd : ds[j]? = some d) (hu : P.underlying t = some (.slice e)) (hb : P.bytesOf e = 8) (hl : l.length = n)
    (he : (d = .nil ∧ n = 0 ∧ c = 0) ∨ ∃ rest, d = .slice (lits .i64 l) (lits .i64 rest) ∧ rest.length + n = c) : n * 8 ≤ 140737488351232 := by
  rcases he with ⟨_, rfl, _⟩ | ⟨rest, rfl, _⟩
  · omega
  · have := sized_slice h ht hd hu
    rw [hb, reach_num] at this
    have hll : (lits (H := H) .i64 l).length = n := by simp [lits, hl]
    rw [hll] at this
    omega
end Go.Proofs.Ytbhbakejpgndmaa
