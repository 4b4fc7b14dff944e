/-
  What a bound on the bulk of what is read gives of an argument that is a slice of ints, or a string.
-/
import Derived.Test.YthphlghblmindaaSized
namespace Go.Proofs.Ythphlghblmindaa
open Go.ChangeShapes Go.WideShapes Go.ChangeAt Go.RowKit Go.WideElems
set_option linter.unusedVariables false

theorem bulk_lits {H : Type} (l : List Int) : Rows.uptoBulkAll (lits (H := H) .i64 l) = l.length := by
  induction l with
  | nil => rfl
  | cons x l ih =>
    have : lits (H := H) .i64 (x :: l) = .lit (Lit.int .i64 x) :: lits .i64 l := rfl
    have h1 : Rows.uptoBulk (H := H) (.lit (Lit.int .i64 x)) = 1 := by rw [Rows.uptoBulk]; intro b h; cases h
    rw [this, Rows.uptoBulkAll, h1, ih, List.length_cons]
    omega
theorem bulk_ints {H : Type} {d : DataW H} {l : List Int} {n c : Nat} (hl : l.length = n)
    (he : (d = .nil ∧ n = 0 ∧ c = 0) ∨ ∃ rest, d = .slice (lits .i64 l) (lits .i64 rest) ∧ rest.length + n = c) : n ≤ Rows.uptoBulk d := by
  rcases he with ⟨_, rfl, _⟩ | ⟨rest, rfl, _⟩
  · omega
  · rw [Rows.uptoBulk, bulk_lits]
    omega
theorem bulk_string {H : Type} {d : DataW H} {s : ByteArray} (he : d = .lit (.string s.data.toList)) : s.size ≤ Rows.uptoBulk d := by
  subst he
  rw [Rows.uptoBulk]
  have h9 : s.data.toList.length = s.size := rfl
  omega
end Go.Proofs.Ythphlghblmindaa
