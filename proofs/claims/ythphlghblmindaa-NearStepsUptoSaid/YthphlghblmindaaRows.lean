/-
  No cell of these rows narrows 'for every input' (looked for: loops, veiled, ifaces, maps, wideKeys, modest, calm, conditions, laid).
  DERIVED. THE GIVEN ROWS OF THIS SEAT. 7 by the template 'for every input the law returns true; each argument reads behind the call as it read before'; 0 by the template 'total and deterministic' (their statements: YthphlghblmindaaTotals.lean).
  GIVEN WITH THE SEED: the statements are not yours to turn. If you find one false, say at which input.
  Laid BY PROGRAM, IN A SANDBOX (cutbox-rows.mjs): the forced cells as the released guide's own fill.sh prints them over the translation 0d1277ffa4f94730… (all of the seat's roots in one cut). By AI agents, Wed Nov 11 2026. No macro, syntax, notation, axiom, sorry.
-/
import Derived.Test.YthphlghblmindaaChecked
import GoSem.Claim
import GoSem.ClaimJoined
import GoSem.ClaimMapViews
import Derived.JoinedTies
import Derived.KernelRfl
namespace Go.Proofs.Ythphlghblmindaa
/- THE CELL 'sum', in the pinned program and in every row, IS THE sha256 OF THE DUMP (.gsa) THAT YthphlghblmindaaProg.lean LOADS. Nothing in Lean hashes anything: it is a label: what it is worth is what the hold of that sum in a sandbox is worth. -/
noncomputable def Try.pinned : Pinned := { name := "ythphlghblmindaa", sum := "0d1277ffa4f94730f883a4b2e4746f51cd23c2300dbe128294c022c3327768a6", checked := Try.checked }
namespace Rows
def none {H : Type} : Left H := { results := [], args := [] }

/-- 'fairkeep.RopeEach': WHATEVER THE INPUT: true; the input reads as it did. -/
def ropeEachSpec : ChangeSpec := { name := "ropeEach", fn := fun _ => fun
  | [d1, d2] => { results := [.lit (.bool true)], args := [d1, d2] }
  | _ => none }
def ropeEachRow : OpenClaim := { program := "ythphlghblmindaa", sum := "0d1277ffa4f94730f883a4b2e4746f51cd23c2300dbe128294c022c3327768a6", func := "fairhand/fairkeep.RopeEach", spec := "ropeEach", unfollowed := true, recurses := true, apart := false }
def RopeEachSaid : Prop := ropeEachRow.holds Try.pinned (OpenSpec.ofChange ropeEachSpec)

/-- ITS FALSE NEIGHBOUR: 'it returns false'. Refute it at one input. -/
def ropeEachWrong : ChangeSpec := { name := "ropeEach", fn := fun _ => fun
  | [d1, d2] => { results := [.lit (.bool false)], args := [d1, d2] }
  | _ => none }
def RopeEachWrongFalsely : Prop := ropeEachRow.holds Try.pinned (OpenSpec.ofChange ropeEachWrong)

/-- 'fairkeep.PaintFew': WHATEVER THE INPUT: true; the input reads as it did. -/
def paintFewSpec : ChangeSpec := { name := "paintFew", fn := fun _ => fun
  | [d1, d2] => { results := [.lit (.bool true)], args := [d1, d2] }
  | _ => none }
def paintFewRow : OpenClaim := { program := "ythphlghblmindaa", sum := "0d1277ffa4f94730f883a4b2e4746f51cd23c2300dbe128294c022c3327768a6", func := "fairhand/fairkeep.PaintFew", spec := "paintFew", unfollowed := true, recurses := true, apart := false }
def PaintFewSaid : Prop := paintFewRow.holds Try.pinned (OpenSpec.ofChange paintFewSpec)

/-- ITS FALSE NEIGHBOUR: 'it returns false'. Refute it at one input. -/
def paintFewWrong : ChangeSpec := { name := "paintFew", fn := fun _ => fun
  | [d1, d2] => { results := [.lit (.bool false)], args := [d1, d2] }
  | _ => none }
def PaintFewWrongFalsely : Prop := paintFewRow.holds Try.pinned (OpenSpec.ofChange paintFewWrong)

/-- 'fairkeep.SpliceOwn': WHATEVER THE INPUT: true; the input reads as it did. -/
def spliceOwnSpec : ChangeSpec := { name := "spliceOwn", fn := fun _ => fun
  | [d1, d2, d3, d4] => { results := [.lit (.bool true)], args := [d1, d2, d3, d4] }
  | _ => none }
def spliceOwnRow : OpenClaim := { program := "ythphlghblmindaa", sum := "0d1277ffa4f94730f883a4b2e4746f51cd23c2300dbe128294c022c3327768a6", func := "fairhand/fairkeep.SpliceOwn", spec := "spliceOwn", unfollowed := true, recurses := true, apart := false }
def SpliceOwnSaid : Prop := spliceOwnRow.holds Try.pinned (OpenSpec.ofChange spliceOwnSpec)

/-- ITS FALSE NEIGHBOUR: 'it returns false'. Refute it at one input. -/
def spliceOwnWrong : ChangeSpec := { name := "spliceOwn", fn := fun _ => fun
  | [d1, d2, d3, d4] => { results := [.lit (.bool false)], args := [d1, d2, d3, d4] }
  | _ => none }
def SpliceOwnWrongFalsely : Prop := spliceOwnRow.holds Try.pinned (OpenSpec.ofChange spliceOwnWrong)

/-- 'fairkeep.NearSteps': WHATEVER THE INPUT: true; the input reads as it did. -/
def nearStepsSpec : ChangeSpec := { name := "nearSteps", fn := fun _ => fun
  | [d1, d2, d3, d4, d5, d6] => { results := [.lit (.bool true)], args := [d1, d2, d3, d4, d5, d6] }
  | _ => none }
def nearStepsRow : OpenClaim := { program := "ythphlghblmindaa", sum := "0d1277ffa4f94730f883a4b2e4746f51cd23c2300dbe128294c022c3327768a6", func := "fairhand/fairkeep.NearSteps", spec := "nearSteps", inPlace := ["slices.overlaps[int]"], apart := false }
def NearStepsSaid : Prop := nearStepsRow.holds Try.pinned (OpenSpec.ofChange nearStepsSpec)

/-- ITS FALSE NEIGHBOUR: 'it returns false'. Refute it at one input. -/
def nearStepsWrong : ChangeSpec := { name := "nearSteps", fn := fun _ => fun
  | [d1, d2, d3, d4, d5, d6] => { results := [.lit (.bool false)], args := [d1, d2, d3, d4, d5, d6] }
  | _ => none }
def NearStepsWrongFalsely : Prop := nearStepsRow.holds Try.pinned (OpenSpec.ofChange nearStepsWrong)

/-- 'fairkeep.EditTyped': WHATEVER THE INPUT: true; the input reads as it did. -/
def editTypedSpec : ChangeSpec := { name := "editTyped", fn := fun _ => fun
  | [d1, d2] => { results := [.lit (.bool true)], args := [d1, d2] }
  | _ => none }
def editTypedRow : OpenClaim := { program := "ythphlghblmindaa", sum := "0d1277ffa4f94730f883a4b2e4746f51cd23c2300dbe128294c022c3327768a6", func := "fairhand/fairkeep.EditTyped", spec := "editTyped", unfollowed := true, recurses := true, apart := false }
def EditTypedSaid : Prop := editTypedRow.holds Try.pinned (OpenSpec.ofChange editTypedSpec)

/-- ITS FALSE NEIGHBOUR: 'it returns false'. Refute it at one input. -/
def editTypedWrong : ChangeSpec := { name := "editTyped", fn := fun _ => fun
  | [d1, d2] => { results := [.lit (.bool false)], args := [d1, d2] }
  | _ => none }
def EditTypedWrongFalsely : Prop := editTypedRow.holds Try.pinned (OpenSpec.ofChange editTypedWrong)

/-- 'fairkeep.PaintMakes': WHATEVER THE INPUT: true; the input reads as it did. -/
def paintMakesSpec : ChangeSpec := { name := "paintMakes", fn := fun _ => fun
  | [d1, d2] => { results := [.lit (.bool true)], args := [d1, d2] }
  | _ => none }
def paintMakesRow : OpenClaim := { program := "ythphlghblmindaa", sum := "0d1277ffa4f94730f883a4b2e4746f51cd23c2300dbe128294c022c3327768a6", func := "fairhand/fairkeep.PaintMakes", spec := "paintMakes", unfollowed := true, recurses := true, apart := false }
def PaintMakesSaid : Prop := paintMakesRow.holds Try.pinned (OpenSpec.ofChange paintMakesSpec)

/-- ITS FALSE NEIGHBOUR: 'it returns false'. Refute it at one input. -/
def paintMakesWrong : ChangeSpec := { name := "paintMakes", fn := fun _ => fun
  | [d1, d2] => { results := [.lit (.bool false)], args := [d1, d2] }
  | _ => none }
def PaintMakesWrongFalsely : Prop := paintMakesRow.holds Try.pinned (OpenSpec.ofChange paintMakesWrong)

/-- 'fairkeep.TermOwn': WHATEVER THE INPUT: true; the input reads as it did. -/
def termOwnSpec : ChangeSpec := { name := "termOwn", fn := fun _ => fun
  | [d1, d2, d3] => { results := [.lit (.bool true)], args := [d1, d2, d3] }
  | _ => none }
def termOwnRow : OpenClaim := { program := "ythphlghblmindaa", sum := "0d1277ffa4f94730f883a4b2e4746f51cd23c2300dbe128294c022c3327768a6", func := "fairhand/fairkeep.TermOwn", spec := "termOwn", unfollowed := true, recurses := true, apart := false }
def TermOwnSaid : Prop := termOwnRow.holds Try.pinned (OpenSpec.ofChange termOwnSpec)

/-- ITS FALSE NEIGHBOUR: 'it returns false'. Refute it at one input. -/
def termOwnWrong : ChangeSpec := { name := "termOwn", fn := fun _ => fun
  | [d1, d2, d3] => { results := [.lit (.bool false)], args := [d1, d2, d3] }
  | _ => none }
def TermOwnWrongFalsely : Prop := termOwnRow.holds Try.pinned (OpenSpec.ofChange termOwnWrong)

/- THE SECOND FORM. 'bulk': how many values and letters a reading holds, each counted each time it is reached (what is shared counts as often as it is met; a slice's spare places count too). A statement '..UptoSaid' is the law's where the arguments, and the package variables that the reading takes, are together of bulk at most 1048576: NARROWER than '..Said'. Prove '..Said' where nothing that the law and all that it calls make is longer than what came in: it says more and counts as full. Else prove '..UptoSaid'. A law counts once. -/
mutual
def uptoBulk {H : Type} : DataW H → Nat
  | .lit (.string bytes) => bytes.length + 1
  | .lit _ => 1
  | .nil => 1
  | .ptr d => uptoBulk d + 1
  | .slice elems spare => uptoBulkAll elems + uptoBulkAll spare + 1
  | .agg parts => uptoBulkAll parts + 1
  | .iface _ d => uptoBulk d + 1
  | .map entries => uptoBulkEntries entries + 1
  | .held _ => 1
def uptoBulkAll {H : Type} : List (DataW H) → Nat
  | [] => 0
  | d :: r => uptoBulk d + uptoBulkAll r
def uptoBulkEntries {H : Type} : List (Lit × DataW H) → Nat
  | [] => 0
  | x :: r => uptoBulkEntry x + uptoBulkEntries r
def uptoBulkEntry {H : Type} : Lit × DataW H → Nat
  | (.string bytes, d) => bytes.length + uptoBulk d + 1
  | (_, d) => uptoBulk d + 1
 end
def uptoSmall : (H : Type) → List (DataW H) → Bool := fun _ ds => decide (uptoBulkAll ds ≤ 1048576)
def OpenSpec.upto (s : _root_.Go.ChangeSpec) : _root_.Go.OpenSpec := { _root_.Go.OpenSpec.ofChange s with cond := some uptoSmall }

/-- 'fairkeep.RopeEach', WHERE WHAT IT READS IS OF BULK AT MOST 1048576: true; the input reads as it did. -/
def ropeEachUptoRow : OpenClaim := { program := "ythphlghblmindaa", sum := "0d1277ffa4f94730f883a4b2e4746f51cd23c2300dbe128294c022c3327768a6", func := "fairhand/fairkeep.RopeEach", spec := "ropeEach", unfollowed := true, recurses := true, apart := false, narrowed := true }
def RopeEachUptoSaid : Prop := ropeEachUptoRow.holds Try.pinned (OpenSpec.upto ropeEachSpec)

/-- 'fairkeep.PaintFew', WHERE WHAT IT READS IS OF BULK AT MOST 1048576: true; the input reads as it did. -/
def paintFewUptoRow : OpenClaim := { program := "ythphlghblmindaa", sum := "0d1277ffa4f94730f883a4b2e4746f51cd23c2300dbe128294c022c3327768a6", func := "fairhand/fairkeep.PaintFew", spec := "paintFew", unfollowed := true, recurses := true, apart := false, narrowed := true }
def PaintFewUptoSaid : Prop := paintFewUptoRow.holds Try.pinned (OpenSpec.upto paintFewSpec)

/-- 'fairkeep.SpliceOwn', WHERE WHAT IT READS IS OF BULK AT MOST 1048576: true; the input reads as it did. -/
def spliceOwnUptoRow : OpenClaim := { program := "ythphlghblmindaa", sum := "0d1277ffa4f94730f883a4b2e4746f51cd23c2300dbe128294c022c3327768a6", func := "fairhand/fairkeep.SpliceOwn", spec := "spliceOwn", unfollowed := true, recurses := true, apart := false, narrowed := true }
def SpliceOwnUptoSaid : Prop := spliceOwnUptoRow.holds Try.pinned (OpenSpec.upto spliceOwnSpec)

/-- 'fairkeep.NearSteps', WHERE WHAT IT READS IS OF BULK AT MOST 1048576: true; the input reads as it did. -/
def nearStepsUptoRow : OpenClaim := { program := "ythphlghblmindaa", sum := "0d1277ffa4f94730f883a4b2e4746f51cd23c2300dbe128294c022c3327768a6", func := "fairhand/fairkeep.NearSteps", spec := "nearSteps", inPlace := ["slices.overlaps[int]"], apart := false, narrowed := true }
def NearStepsUptoSaid : Prop := nearStepsUptoRow.holds Try.pinned (OpenSpec.upto nearStepsSpec)

/-- 'fairkeep.EditTyped', WHERE WHAT IT READS IS OF BULK AT MOST 1048576: true; the input reads as it did. -/
def editTypedUptoRow : OpenClaim := { program := "ythphlghblmindaa", sum := "0d1277ffa4f94730f883a4b2e4746f51cd23c2300dbe128294c022c3327768a6", func := "fairhand/fairkeep.EditTyped", spec := "editTyped", unfollowed := true, recurses := true, apart := false, narrowed := true }
def EditTypedUptoSaid : Prop := editTypedUptoRow.holds Try.pinned (OpenSpec.upto editTypedSpec)

/-- 'fairkeep.PaintMakes', WHERE WHAT IT READS IS OF BULK AT MOST 1048576: true; the input reads as it did. -/
def paintMakesUptoRow : OpenClaim := { program := "ythphlghblmindaa", sum := "0d1277ffa4f94730f883a4b2e4746f51cd23c2300dbe128294c022c3327768a6", func := "fairhand/fairkeep.PaintMakes", spec := "paintMakes", unfollowed := true, recurses := true, apart := false, narrowed := true }
def PaintMakesUptoSaid : Prop := paintMakesUptoRow.holds Try.pinned (OpenSpec.upto paintMakesSpec)

/-- 'fairkeep.TermOwn', WHERE WHAT IT READS IS OF BULK AT MOST 1048576: true; the input reads as it did. -/
def termOwnUptoRow : OpenClaim := { program := "ythphlghblmindaa", sum := "0d1277ffa4f94730f883a4b2e4746f51cd23c2300dbe128294c022c3327768a6", func := "fairhand/fairkeep.TermOwn", spec := "termOwn", unfollowed := true, recurses := true, apart := false, narrowed := true }
def TermOwnUptoSaid : Prop := termOwnUptoRow.holds Try.pinned (OpenSpec.upto termOwnSpec)

end Rows
end Go.Proofs.Ythphlghblmindaa
