/-
  The statement NearStepsUpto, for every input of at most so many values: the walk lifted to the row.
-/
import Derived.Test.YthphlghblmindaaNearS
import Derived.Test.YthphlghblmindaaShell
import Derived.Test.YthphlghblmindaaSized
import Derived.Test.YthphlghblmindaaUpto
namespace Go.Proofs.Ythphlghblmindaa.lawNearSteps
open Go.ChangeShapes Go.WideShapes Go.ChangeAt Go.RowKit
open Go.ChangeMaps (open_string)
set_option linter.unusedVariables false

set_option maxRecDepth 100000 in
theorem lifted (os : Os) (started : os.Started) (H : Type) (enc : TypeId × Value → H) (F : Stop.Interp) :
    ReturnsInHanded {} Try.checked os 6 .any ((Rows.OpenSpec.upto Rows.nearStepsSpec).pre6 enc Try.prog Try.f6 Rows.nearStepsUptoRow.domain false) (((Rows.OpenSpec.upto Rows.nearStepsSpec).at F).post enc Try.prog Try.f6 false true false false) := by
  refine returnsInHanded_of_cond (C := Try.checked) (s := Rows.OpenSpec.upto Rows.nearStepsSpec) (k := Rows.uptoSmall) rfl own_knob started (by kernel_rfl) Try.func6
    (OpenSpec.witness (enc := enc) (C := Try.checked) (s := Rows.OpenSpec.upto Rows.nearStepsSpec) (k := Rows.uptoSmall) rfl false ⟨#[], #[.slice none 0 0, .int .i64 0, .int .i64 0, .int .i64 0, .slice none 0 0, .slice none 0 0], []⟩ 8 (by kernel_rfl) (by kernel_rfl) (by kernel_rfl)
      (x := ([.nil, .lit (.int .i64 0), .lit (.int .i64 0), .lit (.int .i64 0), .nil, .nil], [], [])) (by kernel_rfl) rfl (by kernel_rfl)) ?_
  intro W base args ds gs before hval0 hW _ hk0 _
  have hval : ∀ (j : Nat) t v, Try.f6.params[j]? = some t → args[j]? = some v → Value.okWide Try.prog W .any base t v := hval0
  have hW' := hW
  obtain ⟨p, q, hA0, hV, rfl, hfz, hnd⟩ := hW
  have hA : DataW.TrodAll enc Try.prog W 0 (fun _ => true) true Try.f6.params.toList args.toList ds p := hA0
  rw [Try.params6] at hA hval
  obtain ⟨v0, vs0, d0, ds0, p0, q0, hargs, rfl, rfl, h0, r0⟩ := trodAll_cons hA
  obtain ⟨v1, vs1, d1, ds1, p1, q1, rfl, rfl, rfl, h1, r1⟩ := trodAll_cons r0
  obtain ⟨v2, vs2, d2, ds2, p2, q2, rfl, rfl, rfl, h2, r2⟩ := trodAll_cons r1
  obtain ⟨v3, vs3, d3, ds3, p3, q3, rfl, rfl, rfl, h3, r3⟩ := trodAll_cons r2
  obtain ⟨v4, vs4, d4, ds4, p4, q4, rfl, rfl, rfl, h4, r4⟩ := trodAll_cons r3
  obtain ⟨v5, vs5, d5, ds5, p5, q5, rfl, rfl, rfl, h5, r5⟩ := trodAll_cons r4
  obtain ⟨rfl, rfl, rfl⟩ := trodAll_nil r5
  obtain rfl : args = #[v0, v1, v2, v3, v4, v5] := by cases args; simp_all
  obtain ⟨A0, n0, c0, a0, rfl, i0, w0, e0, y0⟩ := open_intslA Try.underlying22 Try.underlying3 cells_int (hval 0 22 v0 rfl rfl) h0
  obtain ⟨a1, rfl, e1, _, w1⟩ := open_int Try.underlying3 (hval 1 3 v1 rfl rfl) h1
  obtain ⟨a2, rfl, e2, _, w2⟩ := open_int Try.underlying3 (hval 2 3 v2 rfl rfl) h2
  obtain ⟨a3, rfl, e3, _, w3⟩ := open_int Try.underlying3 (hval 3 3 v3 rfl rfl) h3
  obtain ⟨A4, n4, c4, a4, rfl, i4, w4, e4, y4⟩ := open_intslA Try.underlying22 Try.underlying3 cells_int (hval 4 22 v4 rfl rfl) h4
  obtain ⟨A5, n5, c5, a5, rfl, i5, w5, e5, y5⟩ := open_intslA Try.underlying22 Try.underlying3 cells_int (hval 5 22 v5 rfl rfl) h5
  obtain ⟨rfl, rfl⟩ := trodVars_none hV
  clear hA0 hval0
  have hk : Rows.uptoBulkAll [d0, d1, d2, d3, d4, d5] ≤ 1048576 := by simpa [Rows.uptoSmall] using hk0
  simp only [Rows.uptoBulkAll] at hk
  have b0 := bulk_ints (Ints.len i0) e0
  have b4 := bulk_ints (Ints.len i4) e4
  have b5 := bulk_ints (Ints.len i5) e5
  refine (nearSteps_walk i0 y0 i4 y4 i5 y5 (by omega) (by omega) (by omega)).mono fun e W' ⟨he, hg⟩ => ?_
  subst he
  exact ⟨_, rfl, post_true laid_out (by kernel_rfl) Try.underlying4 rfl hW' rfl rfl hg⟩

theorem over : Rows.nearStepsUptoRow.holds Try.pinned (Rows.OpenSpec.upto Rows.nearStepsSpec) :=
  OpenClaim.holds_of_cond 6 Try.f6 rfl rfl rfl rfl rfl rfl rfl ⟨rfl, rfl, rfl, rfl, rfl⟩ rfl rfl rfl rfl rfl (by kernel_rfl) Try.func6 (by kernel_rfl)
    (of_decide_eq_true (by kernel_rfl)) (by unfold Func.isWrapper; first | (rw [if_pos (by decide +kernel)]; kernel_rfl) | (rw [if_neg (by decide +kernel)]; exact ⟨rfl, rfl⟩))
    (fun os started H enc _ F => lifted os started H enc F)

theorem proved : Rows.NearStepsUptoSaid :=
  over
end Go.Proofs.Ythphlghblmindaa.lawNearSteps
