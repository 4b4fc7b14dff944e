/-
  No cell of these rows narrows 'for every input' (looked for: loops, veiled, ifaces, maps, wideKeys, modest, calm, conditions, laid).
  DERIVED. THE GIVEN ROWS OF THIS SEAT. 5 by the template 'for every input the law returns true; each argument reads behind the call as it read before'; 0 by the template 'total and deterministic' (their statements: YtnhpedkofanieaaTotals.lean).
  GIVEN WITH THE SEED: the statements are not yours to turn. If you find one false, say at which input.
  Laid BY PROGRAM, IN A SANDBOX (cutbox-rows.mjs): the forced cells as the released guide's own fill.sh prints them over the translation 4b31c9445b2de998… (all of the seat's roots in one cut). By AI agents, Wed Nov 11 2026. No macro, syntax, notation, axiom, sorry.
-/
import Derived.Test.YtnhpedkofanieaaChecked
import GoSem.Claim
import GoSem.ClaimJoined
import GoSem.ClaimMapViews
import Derived.JoinedTies
import Derived.KernelRfl
namespace Go.Proofs.Ytnhpedkofanieaa
/- THE CELL 'sum', in the pinned program and in every row, IS THE sha256 OF THE DUMP (.gsa) THAT YtnhpedkofanieaaProg.lean LOADS. Nothing in Lean hashes anything: it is a label: what it is worth is what the hold of that sum in a sandbox is worth. -/
noncomputable def Try.pinned : Pinned := { name := "ytnhpedkofanieaa", sum := "4b31c9445b2de998a1865acd1ac84b7c356271bb647cf00ea727569fdbfd2dd8", checked := Try.checked }
namespace Rows
def none {H : Type} : Left H := { results := [], args := [] }

/-- 'fairkeep.ViewIn': WHATEVER THE INPUT: true; the input reads as it did. -/
def viewInSpec : ChangeSpec := { name := "viewIn", fn := fun _ => fun
  | [d1, d2, d3, d4] => { results := [.lit (.bool true)], args := [d1, d2, d3, d4] }
  | _ => none }
def viewInRow : OpenClaim := { program := "ytnhpedkofanieaa", sum := "4b31c9445b2de998a1865acd1ac84b7c356271bb647cf00ea727569fdbfd2dd8", func := "fairhand/fairkeep.ViewIn", spec := "viewIn", unfollowed := true, recurses := true, apart := false }
def ViewInSaid : Prop := viewInRow.holds Try.pinned (OpenSpec.ofChange viewInSpec)

/-- ITS FALSE NEIGHBOUR: 'it returns false'. Refute it at one input. -/
def viewInWrong : ChangeSpec := { name := "viewIn", fn := fun _ => fun
  | [d1, d2, d3, d4] => { results := [.lit (.bool false)], args := [d1, d2, d3, d4] }
  | _ => none }
def ViewInWrongFalsely : Prop := viewInRow.holds Try.pinned (OpenSpec.ofChange viewInWrong)

/-- 'fairkeep.TermCuts': WHATEVER THE INPUT: true; the input reads as it did. -/
def termCutsSpec : ChangeSpec := { name := "termCuts", fn := fun _ => fun
  | [d1, d2, d3] => { results := [.lit (.bool true)], args := [d1, d2, d3] }
  | _ => none }
def termCutsRow : OpenClaim := { program := "ytnhpedkofanieaa", sum := "4b31c9445b2de998a1865acd1ac84b7c356271bb647cf00ea727569fdbfd2dd8", func := "fairhand/fairkeep.TermCuts", spec := "termCuts", unfollowed := true, recurses := true, apart := false }
def TermCutsSaid : Prop := termCutsRow.holds Try.pinned (OpenSpec.ofChange termCutsSpec)

/-- ITS FALSE NEIGHBOUR: 'it returns false'. Refute it at one input. -/
def termCutsWrong : ChangeSpec := { name := "termCuts", fn := fun _ => fun
  | [d1, d2, d3] => { results := [.lit (.bool false)], args := [d1, d2, d3] }
  | _ => none }
def TermCutsWrongFalsely : Prop := termCutsRow.holds Try.pinned (OpenSpec.ofChange termCutsWrong)

/-- 'fairkeep.PaintFew': WHATEVER THE INPUT: true; the input reads as it did. -/
def paintFewSpec : ChangeSpec := { name := "paintFew", fn := fun _ => fun
  | [d1, d2] => { results := [.lit (.bool true)], args := [d1, d2] }
  | _ => none }
def paintFewRow : OpenClaim := { program := "ytnhpedkofanieaa", sum := "4b31c9445b2de998a1865acd1ac84b7c356271bb647cf00ea727569fdbfd2dd8", func := "fairhand/fairkeep.PaintFew", spec := "paintFew", unfollowed := true, recurses := true, apart := false }
def PaintFewSaid : Prop := paintFewRow.holds Try.pinned (OpenSpec.ofChange paintFewSpec)

/-- ITS FALSE NEIGHBOUR: 'it returns false'. Refute it at one input. -/
def paintFewWrong : ChangeSpec := { name := "paintFew", fn := fun _ => fun
  | [d1, d2] => { results := [.lit (.bool false)], args := [d1, d2] }
  | _ => none }
def PaintFewWrongFalsely : Prop := paintFewRow.holds Try.pinned (OpenSpec.ofChange paintFewWrong)

/-- 'fairkeep.PaintMakes': WHATEVER THE INPUT: true; the input reads as it did. -/
def paintMakesSpec : ChangeSpec := { name := "paintMakes", fn := fun _ => fun
  | [d1, d2] => { results := [.lit (.bool true)], args := [d1, d2] }
  | _ => none }
def paintMakesRow : OpenClaim := { program := "ytnhpedkofanieaa", sum := "4b31c9445b2de998a1865acd1ac84b7c356271bb647cf00ea727569fdbfd2dd8", func := "fairhand/fairkeep.PaintMakes", spec := "paintMakes", unfollowed := true, recurses := true, apart := false }
def PaintMakesSaid : Prop := paintMakesRow.holds Try.pinned (OpenSpec.ofChange paintMakesSpec)

/-- ITS FALSE NEIGHBOUR: 'it returns false'. Refute it at one input. -/
def paintMakesWrong : ChangeSpec := { name := "paintMakes", fn := fun _ => fun
  | [d1, d2] => { results := [.lit (.bool false)], args := [d1, d2] }
  | _ => none }
def PaintMakesWrongFalsely : Prop := paintMakesRow.holds Try.pinned (OpenSpec.ofChange paintMakesWrong)

/-- 'fairkeep.TermOwn': WHATEVER THE INPUT: true; the input reads as it did. -/
def termOwnSpec : ChangeSpec := { name := "termOwn", fn := fun _ => fun
  | [d1, d2, d3] => { results := [.lit (.bool true)], args := [d1, d2, d3] }
  | _ => none }
def termOwnRow : OpenClaim := { program := "ytnhpedkofanieaa", sum := "4b31c9445b2de998a1865acd1ac84b7c356271bb647cf00ea727569fdbfd2dd8", func := "fairhand/fairkeep.TermOwn", spec := "termOwn", unfollowed := true, recurses := true, apart := false }
def TermOwnSaid : Prop := termOwnRow.holds Try.pinned (OpenSpec.ofChange termOwnSpec)

/-- ITS FALSE NEIGHBOUR: 'it returns false'. Refute it at one input. -/
def termOwnWrong : ChangeSpec := { name := "termOwn", fn := fun _ => fun
  | [d1, d2, d3] => { results := [.lit (.bool false)], args := [d1, d2, d3] }
  | _ => none }
def TermOwnWrongFalsely : Prop := termOwnRow.holds Try.pinned (OpenSpec.ofChange termOwnWrong)

/- THE SECOND FORM. 'bulk': how many values and letters a reading holds, each counted each time it is reached (what is shared counts as often as it is met; a slice's spare places count too). A statement '..UptoSaid' is the law's where the arguments, and the package variables that the reading takes, are together of bulk at most 1048576: NARROWER than '..Said'. Prove '..Said' where nothing that the law and all that it calls make is longer than what came in: it says more and counts as full. Else prove '..UptoSaid'. A law counts once. -/
mutual
def uptoBulk {H : Type} : DataW H → Nat
  | .lit (.string bytes) => bytes.length + 1
  | .lit _ => 1
  | .nil => 1
  | .ptr d => uptoBulk d + 1
  | .slice elems spare => uptoBulkAll elems + uptoBulkAll spare + 1
  | .agg parts => uptoBulkAll parts + 1
  | .iface _ d => uptoBulk d + 1
  | .map entries => uptoBulkEntries entries + 1
  | .held _ => 1
def uptoBulkAll {H : Type} : List (DataW H) → Nat
  | [] => 0
  | d :: r => uptoBulk d + uptoBulkAll r
def uptoBulkEntries {H : Type} : List (Lit × DataW H) → Nat
  | [] => 0
  | x :: r => uptoBulkEntry x + uptoBulkEntries r
def uptoBulkEntry {H : Type} : Lit × DataW H → Nat
  | (.string bytes, d) => bytes.length + uptoBulk d + 1
  | (_, d) => uptoBulk d + 1
 end
def uptoSmall : (H : Type) → List (DataW H) → Bool := fun _ ds => decide (uptoBulkAll ds ≤ 1048576)
def OpenSpec.upto (s : _root_.Go.ChangeSpec) : _root_.Go.OpenSpec := { _root_.Go.OpenSpec.ofChange s with cond := some uptoSmall }

/-- 'fairkeep.ViewIn', WHERE WHAT IT READS IS OF BULK AT MOST 1048576: true; the input reads as it did. -/
def viewInUptoRow : OpenClaim := { program := "ytnhpedkofanieaa", sum := "4b31c9445b2de998a1865acd1ac84b7c356271bb647cf00ea727569fdbfd2dd8", func := "fairhand/fairkeep.ViewIn", spec := "viewIn", unfollowed := true, recurses := true, apart := false, narrowed := true }
def ViewInUptoSaid : Prop := viewInUptoRow.holds Try.pinned (OpenSpec.upto viewInSpec)

/-- 'fairkeep.TermCuts', WHERE WHAT IT READS IS OF BULK AT MOST 1048576: true; the input reads as it did. -/
def termCutsUptoRow : OpenClaim := { program := "ytnhpedkofanieaa", sum := "4b31c9445b2de998a1865acd1ac84b7c356271bb647cf00ea727569fdbfd2dd8", func := "fairhand/fairkeep.TermCuts", spec := "termCuts", unfollowed := true, recurses := true, apart := false, narrowed := true }
def TermCutsUptoSaid : Prop := termCutsUptoRow.holds Try.pinned (OpenSpec.upto termCutsSpec)

/-- 'fairkeep.PaintFew', WHERE WHAT IT READS IS OF BULK AT MOST 1048576: true; the input reads as it did. -/
def paintFewUptoRow : OpenClaim := { program := "ytnhpedkofanieaa", sum := "4b31c9445b2de998a1865acd1ac84b7c356271bb647cf00ea727569fdbfd2dd8", func := "fairhand/fairkeep.PaintFew", spec := "paintFew", unfollowed := true, recurses := true, apart := false, narrowed := true }
def PaintFewUptoSaid : Prop := paintFewUptoRow.holds Try.pinned (OpenSpec.upto paintFewSpec)

/-- 'fairkeep.PaintMakes', WHERE WHAT IT READS IS OF BULK AT MOST 1048576: true; the input reads as it did. -/
def paintMakesUptoRow : OpenClaim := { program := "ytnhpedkofanieaa", sum := "4b31c9445b2de998a1865acd1ac84b7c356271bb647cf00ea727569fdbfd2dd8", func := "fairhand/fairkeep.PaintMakes", spec := "paintMakes", unfollowed := true, recurses := true, apart := false, narrowed := true }
def PaintMakesUptoSaid : Prop := paintMakesUptoRow.holds Try.pinned (OpenSpec.upto paintMakesSpec)

/-- 'fairkeep.TermOwn', WHERE WHAT IT READS IS OF BULK AT MOST 1048576: true; the input reads as it did. -/
def termOwnUptoRow : OpenClaim := { program := "ytnhpedkofanieaa", sum := "4b31c9445b2de998a1865acd1ac84b7c356271bb647cf00ea727569fdbfd2dd8", func := "fairhand/fairkeep.TermOwn", spec := "termOwn", unfollowed := true, recurses := true, apart := false, narrowed := true }
def TermOwnUptoSaid : Prop := termOwnUptoRow.holds Try.pinned (OpenSpec.upto termOwnSpec)

end Rows
end Go.Proofs.Ytnhpedkofanieaa
