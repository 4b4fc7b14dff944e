/-
  This seat lays the kit's shelf for slices.Insert and slices.Delete at []int.
-/
import Derived.Test.YthphlghblmindaaLib
import Derived.Shelf.Spec.SlicesInsert
import Derived.Shelf.Spec.SlicesInsertGrow
import Derived.Shelf.Slices.Delete
namespace Go.Proofs.Ythphlghblmindaa
open Go.RowKit Go.Shelf
set_option linter.unusedVariables false

/-- How this seat numbers what the shelf numbers. -/
def renM : Ren := ⟨fun k => if k = 21 then 30 else if k = 23 then 31 else if k = 27 then 55 else if k = 28 then 56 else if k = 35 then 66 else 72, fun t => t, fun g => g⟩
set_option maxRecDepth 100000 in
theorem layI : Lays2.n21 Try.prog renM where
  mixed := by kernel_rfl
  f21 := by kernel_rfl
  f27 := by kernel_rfl
  f28 := by kernel_rfl
  f35 := by kernel_rfl
  f39 := by kernel_rfl
  t0 := by kernel_rfl
  a0 := fun w => by kernel_rfl
  z0 := fun w => by kernel_rfl
  v0 := fun w => by kernel_rfl
  t3 := by kernel_rfl
  a3 := fun w => by kernel_rfl
  z3 := fun w => by kernel_rfl
  v3 := fun w => by kernel_rfl
  t4 := by kernel_rfl
  a4 := fun w => by kernel_rfl
  z4 := fun w => by kernel_rfl
  v4 := fun w => by kernel_rfl
  t22 := by kernel_rfl
  a22 := fun w => by kernel_rfl
  z22 := fun w => by kernel_rfl
  v22 := fun w => by kernel_rfl
  i3 := by kernel_rfl
set_option maxRecDepth 100000 in
theorem layD : Lays2.n23 Try.prog renM where
  mixed := by kernel_rfl
  f23 := by kernel_rfl
  t0 := layI.t0
  a0 := layI.a0
  z0 := layI.z0
  v0 := layI.v0
  t3 := layI.t3
  a3 := layI.a3
  z3 := layI.z3
  v3 := layI.v3
  t4 := layI.t4
  a4 := layI.a4
  z4 := layI.z4
  v4 := layI.v4
  t22 := layI.t22
  a22 := layI.a22
  z22 := layI.z22
  v22 := layI.v22
  i3 := layI.i3
end Go.Proofs.Ythphlghblmindaa
