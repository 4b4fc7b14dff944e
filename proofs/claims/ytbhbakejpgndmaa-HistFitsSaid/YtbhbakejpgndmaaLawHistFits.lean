/-
  The statement HistFits, for every input: the walk lifted to the row.
-/
import Derived.Test.YtbhbakejpgndmaaHisH
import Derived.Test.YtbhbakejpgndmaaShell
import Derived.Test.YtbhbakejpgndmaaOpenH
import Derived.Test.YtbhbakejpgndmaaSized
namespace Go.Proofs.Ytbhbakejpgndmaa.lawHistFits
open Go.ChangeShapes Go.WideShapes Go.ChangeAt Go.RowKit
open Go.ChangeMaps (open_string)
set_option linter.unusedVariables false

set_option maxRecDepth 100000 in
theorem lifted (os : Os) (started : os.Started) (H : Type) (enc : TypeId × Value → H) :
    ReturnsInHanded {} Try.checked os 9 .any (Rows.histFitsSpec.pre6 enc Try.prog Try.f9 Rows.histFitsRow.domain false) (Rows.histFitsSpec.post enc Try.prog Try.f9 false true false false) := by
  refine returnsInHanded_of_change_sized (C := Try.checked) own_knob started (by kernel_rfl) Try.func9
    (ChangeSpec.witness6 (enc := enc) (C := Try.checked) false ⟨#[], #[.agg #[.slice none 0 0, .int .i64 0, .int .i64 0, .slice none 0 0, .slice none 0 0, .bool false], .slice none 0 0, .slice none 0 0, .bool false], []⟩ 8 (by kernel_rfl) (by kernel_rfl) (by kernel_rfl) (by kernel_rfl)) ?_
  intro W base args ds gs before hval0 hW hcnd hsz _
  have hval : ∀ (j : Nat) t v, Try.f9.params[j]? = some t → args[j]? = some v → Value.okWide Try.prog W .any base t v := hval0
  have hW' := hW
  obtain ⟨p, q, hA0, hV, rfl, hfz, hnd⟩ := hW
  have hA : DataW.TrodAll enc Try.prog W 0 (fun _ => true) true Try.f9.params.toList args.toList ds p := hA0
  rw [Try.params9] at hA hval
  obtain ⟨v0, vs0, d0, ds0, p0, q0, hargs, rfl, rfl, h0, r0⟩ := trodAll_cons hA
  obtain ⟨v1, vs1, d1, ds1, p1, q1, rfl, rfl, rfl, h1, r1⟩ := trodAll_cons r0
  obtain ⟨v2, vs2, d2, ds2, p2, q2, rfl, rfl, rfl, h2, r2⟩ := trodAll_cons r1
  obtain ⟨v3, vs3, d3, ds3, p3, q3, rfl, rfl, rfl, h3, r3⟩ := trodAll_cons r2
  obtain ⟨rfl, rfl, rfl⟩ := trodAll_nil r3
  obtain rfl : args = #[v0, v1, v2, v3] := by cases args; simp_all
  obtain ⟨hh0, i0, hq0⟩ := open_hist (j := 0) hsz rfl rfl (hval 0 55 v0 rfl rfl) h0
  obtain ⟨A1, n1, c1, a1, rfl, i1, w1, e1, y1⟩ := open_intslA Try.underlying22 Try.underlying3 cells_int (hval 1 22 v1 rfl rfl) h1
  obtain ⟨A2, n2, c2, a2, rfl, i2, w2, e2, y2⟩ := open_intslA Try.underlying22 Try.underlying3 cells_int (hval 2 22 v2 rfl rfl) h2
  obtain ⟨a3, rfl, e3, _⟩ := open_bool Try.underlying4 (hval 3 4 v3 rfl rfl) h3
  obtain ⟨rfl, rfl⟩ := trodVars_none hV
  clear hA0 hval0
  refine (histFits_walk i0 i1 y1 i2 y2).mono fun e W' ⟨he, hg⟩ => ?_
  subst he
  exact ⟨_, rfl, post_true laid_out (by kernel_rfl) Try.underlying4 rfl hW' rfl rfl hg⟩

theorem over : Rows.histFitsRow.holds Try.pinned (OpenSpec.ofChange Rows.histFitsSpec) :=
  OpenClaim.holds_of_wide 9 Try.f9 rfl rfl rfl rfl rfl rfl rfl ⟨rfl, rfl, rfl, rfl, rfl⟩ rfl rfl rfl rfl rfl (by kernel_rfl) Try.func9 (by kernel_rfl)
    (of_decide_eq_true (by kernel_rfl)) (by unfold Func.isWrapper; first | (rw [if_pos (by decide +kernel)]; kernel_rfl) | (rw [if_neg (by decide +kernel)]; exact ⟨rfl, rfl⟩))
    (fun os started H enc _ => lifted os started H enc)

theorem proved : Rows.HistFitsSaid :=
  over
end Go.Proofs.Ytbhbakejpgndmaa.lawHistFits
