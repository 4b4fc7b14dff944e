/-
  The statement AbbrParts, for every input: the walk lifted to the row.
-/
import Derived.Test.YtdkjkcegchohfaaAbZ
import Derived.Test.YtdkjkcegchohfaaShell
import Derived.Test.YtdkjkcegchohfaaOpenLw
import Derived.Test.YtdkjkcegchohfaaSized
namespace Go.Proofs.Ytdkjkcegchohfaa.lawAbbrParts
open Go.ChangeShapes Go.WideShapes Go.ChangeAt Go.RowKit
open Go.ChangeMaps (open_string)
set_option linter.unusedVariables false

set_option maxRecDepth 100000 in
theorem lifted (os : Os) (started : os.Started) (H : Type) (enc : TypeId × Value → H) :
    ReturnsInHanded {} Try.checked os 4 .any (Rows.abbrPartsSpec.pre6 enc Try.prog Try.f4 Rows.abbrPartsRow.domain false) (Rows.abbrPartsSpec.post enc Try.prog Try.f4 false true false false) := by
  refine returnsInHanded_of_change_sized (C := Try.checked) own_knob started (by kernel_rfl) Try.func4
    (ChangeSpec.witness6 (enc := enc) (C := Try.checked) false ⟨#[], #[.slice none 0 0, .slice none 0 0, .slice none 0 0], []⟩ 8 (by kernel_rfl) (by kernel_rfl) (by kernel_rfl) (by kernel_rfl)) ?_
  intro W base args ds gs before hval0 hW hcnd hsz _
  have hval : ∀ (j : Nat) t v, Try.f4.params[j]? = some t → args[j]? = some v → Value.okWide Try.prog W .any base t v := hval0
  have hW' := hW
  obtain ⟨p, q, hA0, hV, rfl, hfz, hnd⟩ := hW
  have hA : DataW.TrodAll enc Try.prog W 0 (fun _ => true) true Try.f4.params.toList args.toList ds p := hA0
  rw [Try.params4] at hA hval
  obtain ⟨v0, vs0, d0, ds0, p0, q0, hargs, rfl, rfl, h0, r0⟩ := trodAll_cons hA
  obtain ⟨v1, vs1, d1, ds1, p1, q1, rfl, rfl, rfl, h1, r1⟩ := trodAll_cons r0
  obtain ⟨v2, vs2, d2, ds2, p2, q2, rfl, rfl, rfl, h2, r2⟩ := trodAll_cons r1
  obtain ⟨rfl, rfl, rfl⟩ := trodAll_nil r2
  obtain rfl : args = #[v0, v1, v2] := by cases args; simp_all
  obtain ⟨A0, n0, c0, l0, rfl, i0, y0, z0, q0, w0⟩ := open_listsW (j := 0) hsz rfl rfl (hval 0 22 v0 rfl rfl) h0
  obtain ⟨A1, n1, c1, a1, rfl, i1, w1, e1, y1⟩ := open_intslA Try.underlying23 Try.underlying3 cells_int (hval 1 23 v1 rfl rfl) h1
  obtain ⟨A2, n2, c2, a2, rfl, i2, w2, e2, y2⟩ := open_intslA Try.underlying23 Try.underlying3 cells_int (hval 2 23 v2 rfl rfl) h2
  obtain ⟨rfl, rfl⟩ := trodVars_none hV
  clear hA0 hval0
  have z1 := sized_ints (j := 1) hsz rfl rfl Try.underlying23 (by kernel_rfl) (Ints.len i1) e1
  have z2 := sized_ints (j := 2) hsz rfl rfl Try.underlying23 (by kernel_rfl) (Ints.len i2) e2
  refine (abbrParts_walk i0 w0 i1 y1 z1 w1 i2 y2 z2 w2).mono fun e W' ⟨he, hg⟩ => ?_
  subst he
  exact ⟨_, rfl, post_true laid_out (by kernel_rfl) Try.underlying4 rfl hW' rfl rfl hg⟩

theorem over : Rows.abbrPartsRow.holds Try.pinned (OpenSpec.ofChange Rows.abbrPartsSpec) :=
  OpenClaim.holds_of_wide 4 Try.f4 rfl rfl rfl rfl rfl rfl rfl ⟨rfl, rfl, rfl, rfl, rfl⟩ rfl rfl rfl rfl rfl (by kernel_rfl) Try.func4 (by kernel_rfl)
    (of_decide_eq_true (by kernel_rfl)) (by unfold Func.isWrapper; first | (rw [if_pos (by decide +kernel)]; kernel_rfl) | (rw [if_neg (by decide +kernel)]; exact ⟨rfl, rfl⟩))
    (fun os started H enc _ => lifted os started H enc)

theorem proved : Rows.AbbrPartsSaid :=
  over
end Go.Proofs.Ytdkjkcegchohfaa.lawAbbrParts
