/-
  No cell of these rows narrows 'for every input' (looked for: loops, veiled, ifaces, maps, wideKeys, modest, calm, conditions, laid).
  DERIVED. THE GIVEN ROWS OF THIS SEAT. 5 by the template 'for every input the law returns true; each argument reads behind the call as it read before'; 0 by the template 'total and deterministic' (their statements: YtmhgndjmcignjaaTotals.lean).
  GIVEN WITH THE SEED: the statements are not yours to turn. If you find one false, say at which input.
  Laid BY PROGRAM, IN A SANDBOX (cutbox-rows.mjs): the forced cells as the released guide's own fill.sh prints them over the translation 850ec94263632710… (all of the seat's roots in one cut). By AI agents, Wed Nov 11 2026. No macro, syntax, notation, axiom, sorry.
-/
import Derived.Test.YtmhgndjmcignjaaChecked
import GoSem.Claim
import GoSem.ClaimJoined
import GoSem.ClaimMapViews
import Derived.JoinedTies
import Derived.KernelRfl
namespace Go.Proofs.Ytmhgndjmcignjaa
/- THE CELL 'sum', in the pinned program and in every row, IS THE sha256 OF THE DUMP (.gsa) THAT YtmhgndjmcignjaaProg.lean LOADS. Nothing in Lean hashes anything: it is a label: what it is worth is what the hold of that sum in a sandbox is worth. -/
noncomputable def Try.pinned : Pinned := { name := "ytmhgndjmcignjaa", sum := "850ec94263632710343570880ad377c9efea2f068c030718611a0ab503a38c19", checked := Try.checked }
namespace Rows
def none {H : Type} : Left H := { results := [], args := [] }

/-- 'fairkeep.EditTakes': WHATEVER THE INPUT: true; the input reads as it did. -/
def editTakesSpec : ChangeSpec := { name := "editTakes", fn := fun _ => fun
  | [d1, d2, d3] => { results := [.lit (.bool true)], args := [d1, d2, d3] }
  | _ => none }
def editTakesRow : OpenClaim := { program := "ytmhgndjmcignjaa", sum := "850ec94263632710343570880ad377c9efea2f068c030718611a0ab503a38c19", func := "fairhand/fairkeep.EditTakes", spec := "editTakes", unfollowed := true, recurses := true, apart := false }
def EditTakesSaid : Prop := editTakesRow.holds Try.pinned (OpenSpec.ofChange editTakesSpec)

/-- ITS FALSE NEIGHBOUR: 'it returns false'. Refute it at one input. -/
def editTakesWrong : ChangeSpec := { name := "editTakes", fn := fun _ => fun
  | [d1, d2, d3] => { results := [.lit (.bool false)], args := [d1, d2, d3] }
  | _ => none }
def EditTakesWrongFalsely : Prop := editTakesRow.holds Try.pinned (OpenSpec.ofChange editTakesWrong)

/-- 'fairkeep.EditPaste': WHATEVER THE INPUT: true; the input reads as it did. -/
def editPasteSpec : ChangeSpec := { name := "editPaste", fn := fun _ => fun
  | [d1, d2, d3] => { results := [.lit (.bool true)], args := [d1, d2, d3] }
  | _ => none }
def editPasteRow : OpenClaim := { program := "ytmhgndjmcignjaa", sum := "850ec94263632710343570880ad377c9efea2f068c030718611a0ab503a38c19", func := "fairhand/fairkeep.EditPaste", spec := "editPaste", unfollowed := true, recurses := true, apart := false }
def EditPasteSaid : Prop := editPasteRow.holds Try.pinned (OpenSpec.ofChange editPasteSpec)

/-- ITS FALSE NEIGHBOUR: 'it returns false'. Refute it at one input. -/
def editPasteWrong : ChangeSpec := { name := "editPaste", fn := fun _ => fun
  | [d1, d2, d3] => { results := [.lit (.bool false)], args := [d1, d2, d3] }
  | _ => none }
def EditPasteWrongFalsely : Prop := editPasteRow.holds Try.pinned (OpenSpec.ofChange editPasteWrong)

/-- 'fairkeep.EditCase': WHATEVER THE INPUT: true; the input reads as it did. -/
def editCaseSpec : ChangeSpec := { name := "editCase", fn := fun _ => fun
  | [d1, d2] => { results := [.lit (.bool true)], args := [d1, d2] }
  | _ => none }
def editCaseRow : OpenClaim := { program := "ytmhgndjmcignjaa", sum := "850ec94263632710343570880ad377c9efea2f068c030718611a0ab503a38c19", func := "fairhand/fairkeep.EditCase", spec := "editCase", unfollowed := true, recurses := true, apart := false }
def EditCaseSaid : Prop := editCaseRow.holds Try.pinned (OpenSpec.ofChange editCaseSpec)

/-- ITS FALSE NEIGHBOUR: 'it returns false'. Refute it at one input. -/
def editCaseWrong : ChangeSpec := { name := "editCase", fn := fun _ => fun
  | [d1, d2] => { results := [.lit (.bool false)], args := [d1, d2] }
  | _ => none }
def EditCaseWrongFalsely : Prop := editCaseRow.holds Try.pinned (OpenSpec.ofChange editCaseWrong)

/-- 'fairkeep.EditBounds': WHATEVER THE INPUT: true; the input reads as it did. -/
def editBoundsSpec : ChangeSpec := { name := "editBounds", fn := fun _ => fun
  | [d1, d2, d3, d4] => { results := [.lit (.bool true)], args := [d1, d2, d3, d4] }
  | _ => none }
def editBoundsRow : OpenClaim := { program := "ytmhgndjmcignjaa", sum := "850ec94263632710343570880ad377c9efea2f068c030718611a0ab503a38c19", func := "fairhand/fairkeep.EditBounds", spec := "editBounds", unfollowed := true, recurses := true, apart := false }
def EditBoundsSaid : Prop := editBoundsRow.holds Try.pinned (OpenSpec.ofChange editBoundsSpec)

/-- ITS FALSE NEIGHBOUR: 'it returns false'. Refute it at one input. -/
def editBoundsWrong : ChangeSpec := { name := "editBounds", fn := fun _ => fun
  | [d1, d2, d3, d4] => { results := [.lit (.bool false)], args := [d1, d2, d3, d4] }
  | _ => none }
def EditBoundsWrongFalsely : Prop := editBoundsRow.holds Try.pinned (OpenSpec.ofChange editBoundsWrong)

/-- 'fairkeep.EditOwn': WHATEVER THE INPUT: true; the input reads as it did. -/
def editOwnSpec : ChangeSpec := { name := "editOwn", fn := fun _ => fun
  | [d1, d2, d3, d4] => { results := [.lit (.bool true)], args := [d1, d2, d3, d4] }
  | _ => none }
def editOwnRow : OpenClaim := { program := "ytmhgndjmcignjaa", sum := "850ec94263632710343570880ad377c9efea2f068c030718611a0ab503a38c19", func := "fairhand/fairkeep.EditOwn", spec := "editOwn", unfollowed := true, recurses := true, apart := false }
def EditOwnSaid : Prop := editOwnRow.holds Try.pinned (OpenSpec.ofChange editOwnSpec)

/-- ITS FALSE NEIGHBOUR: 'it returns false'. Refute it at one input. -/
def editOwnWrong : ChangeSpec := { name := "editOwn", fn := fun _ => fun
  | [d1, d2, d3, d4] => { results := [.lit (.bool false)], args := [d1, d2, d3, d4] }
  | _ => none }
def EditOwnWrongFalsely : Prop := editOwnRow.holds Try.pinned (OpenSpec.ofChange editOwnWrong)

/- THE SECOND FORM. 'bulk': how many values and letters a reading holds, each counted each time it is reached (what is shared counts as often as it is met; a slice's spare places count too). A statement '..UptoSaid' is the law's where the arguments, and the package variables that the reading takes, are together of bulk at most 1048576: NARROWER than '..Said'. Prove '..Said' where nothing that the law and all that it calls make is longer than what came in: it says more and counts as full. Else prove '..UptoSaid'. A law counts once. -/
mutual
def uptoBulk {H : Type} : DataW H → Nat
  | .lit (.string bytes) => bytes.length + 1
  | .lit _ => 1
  | .nil => 1
  | .ptr d => uptoBulk d + 1
  | .slice elems spare => uptoBulkAll elems + uptoBulkAll spare + 1
  | .agg parts => uptoBulkAll parts + 1
  | .iface _ d => uptoBulk d + 1
  | .map entries => uptoBulkEntries entries + 1
  | .held _ => 1
def uptoBulkAll {H : Type} : List (DataW H) → Nat
  | [] => 0
  | d :: r => uptoBulk d + uptoBulkAll r
def uptoBulkEntries {H : Type} : List (Lit × DataW H) → Nat
  | [] => 0
  | x :: r => uptoBulkEntry x + uptoBulkEntries r
def uptoBulkEntry {H : Type} : Lit × DataW H → Nat
  | (.string bytes, d) => bytes.length + uptoBulk d + 1
  | (_, d) => uptoBulk d + 1
 end
def uptoSmall : (H : Type) → List (DataW H) → Bool := fun _ ds => decide (uptoBulkAll ds ≤ 1048576)
def OpenSpec.upto (s : _root_.Go.ChangeSpec) : _root_.Go.OpenSpec := { _root_.Go.OpenSpec.ofChange s with cond := some uptoSmall }

/-- 'fairkeep.EditTakes', WHERE WHAT IT READS IS OF BULK AT MOST 1048576: true; the input reads as it did. -/
def editTakesUptoRow : OpenClaim := { program := "ytmhgndjmcignjaa", sum := "850ec94263632710343570880ad377c9efea2f068c030718611a0ab503a38c19", func := "fairhand/fairkeep.EditTakes", spec := "editTakes", unfollowed := true, recurses := true, apart := false, narrowed := true }
def EditTakesUptoSaid : Prop := editTakesUptoRow.holds Try.pinned (OpenSpec.upto editTakesSpec)

/-- 'fairkeep.EditPaste', WHERE WHAT IT READS IS OF BULK AT MOST 1048576: true; the input reads as it did. -/
def editPasteUptoRow : OpenClaim := { program := "ytmhgndjmcignjaa", sum := "850ec94263632710343570880ad377c9efea2f068c030718611a0ab503a38c19", func := "fairhand/fairkeep.EditPaste", spec := "editPaste", unfollowed := true, recurses := true, apart := false, narrowed := true }
def EditPasteUptoSaid : Prop := editPasteUptoRow.holds Try.pinned (OpenSpec.upto editPasteSpec)

/-- 'fairkeep.EditCase', WHERE WHAT IT READS IS OF BULK AT MOST 1048576: true; the input reads as it did. -/
def editCaseUptoRow : OpenClaim := { program := "ytmhgndjmcignjaa", sum := "850ec94263632710343570880ad377c9efea2f068c030718611a0ab503a38c19", func := "fairhand/fairkeep.EditCase", spec := "editCase", unfollowed := true, recurses := true, apart := false, narrowed := true }
def EditCaseUptoSaid : Prop := editCaseUptoRow.holds Try.pinned (OpenSpec.upto editCaseSpec)

/-- 'fairkeep.EditBounds', WHERE WHAT IT READS IS OF BULK AT MOST 1048576: true; the input reads as it did. -/
def editBoundsUptoRow : OpenClaim := { program := "ytmhgndjmcignjaa", sum := "850ec94263632710343570880ad377c9efea2f068c030718611a0ab503a38c19", func := "fairhand/fairkeep.EditBounds", spec := "editBounds", unfollowed := true, recurses := true, apart := false, narrowed := true }
def EditBoundsUptoSaid : Prop := editBoundsUptoRow.holds Try.pinned (OpenSpec.upto editBoundsSpec)

/-- 'fairkeep.EditOwn', WHERE WHAT IT READS IS OF BULK AT MOST 1048576: true; the input reads as it did. -/
def editOwnUptoRow : OpenClaim := { program := "ytmhgndjmcignjaa", sum := "850ec94263632710343570880ad377c9efea2f068c030718611a0ab503a38c19", func := "fairhand/fairkeep.EditOwn", spec := "editOwn", unfollowed := true, recurses := true, apart := false, narrowed := true }
def EditOwnUptoSaid : Prop := editOwnUptoRow.holds Try.pinned (OpenSpec.upto editOwnSpec)

end Rows
end Go.Proofs.Ytmhgndjmcignjaa
