/-
  No cell of these rows narrows 'for every input' (looked for: loops, veiled, ifaces, maps, wideKeys, modest, calm, conditions, laid).
  DERIVED. THE GIVEN ROWS OF THIS SEAT. 7 by the template 'for every input the law returns true; each argument reads behind the call as it read before'; 0 by the template 'total and deterministic' (their statements: YtkjlgfokgpdliaaTotals.lean).
  GIVEN WITH THE SEED: the statements are not yours to turn. If you find one false, say at which input.
  Laid BY PROGRAM, IN A SANDBOX (cutbox-rows.mjs): the forced cells as the released guide's own fill.sh prints them over the translation d1e673970548ad6a… (all of the seat's roots in one cut). By AI agents, Wed Nov 11 2026. No macro, syntax, notation, axiom, sorry.
-/
import Derived.Test.YtkjlgfokgpdliaaChecked
import GoSem.Claim
import GoSem.ClaimJoined
import GoSem.ClaimMapViews
import Derived.JoinedTies
import Derived.KernelRfl
namespace Go.Proofs.Ytkjlgfokgpdliaa
/- THE CELL 'sum', in the pinned program and in every row, IS THE sha256 OF THE DUMP (.gsa) THAT YtkjlgfokgpdliaaProg.lean LOADS. Nothing in Lean hashes anything: it is a label: what it is worth is what the hold of that sum in a sandbox is worth. -/
noncomputable def Try.pinned : Pinned := { name := "ytkjlgfokgpdliaa", sum := "d1e673970548ad6a6f7e31881d7e93fa4d69bd8103fcfceec37a9df32fee3cca", checked := Try.checked }
namespace Rows
def none {H : Type} : Left H := { results := [], args := [] }

/-- 'fairkeep.WordBig': WHATEVER THE INPUT: true; the input reads as it did. -/
def wordBigSpec : ChangeSpec := { name := "wordBig", fn := fun _ => fun
  | [d1, d2] => { results := [.lit (.bool true)], args := [d1, d2] }
  | _ => none }
def wordBigRow : OpenClaim := { program := "ytkjlgfokgpdliaa", sum := "d1e673970548ad6a6f7e31881d7e93fa4d69bd8103fcfceec37a9df32fee3cca", func := "fairhand/fairkeep.WordBig", spec := "wordBig", apart := false }
def WordBigSaid : Prop := wordBigRow.holds Try.pinned (OpenSpec.ofChange wordBigSpec)

/-- ITS FALSE NEIGHBOUR: 'it returns false'. Refute it at one input. -/
def wordBigWrong : ChangeSpec := { name := "wordBig", fn := fun _ => fun
  | [d1, d2] => { results := [.lit (.bool false)], args := [d1, d2] }
  | _ => none }
def WordBigWrongFalsely : Prop := wordBigRow.holds Try.pinned (OpenSpec.ofChange wordBigWrong)

/-- 'fairkeep.WordWays': WHATEVER THE INPUT: true; the input reads as it did. -/
def wordWaysSpec : ChangeSpec := { name := "wordWays", fn := fun _ => fun
  | [d1, d2, d3] => { results := [.lit (.bool true)], args := [d1, d2, d3] }
  | _ => none }
def wordWaysRow : OpenClaim := { program := "ytkjlgfokgpdliaa", sum := "d1e673970548ad6a6f7e31881d7e93fa4d69bd8103fcfceec37a9df32fee3cca", func := "fairhand/fairkeep.WordWays", spec := "wordWays", unfollowed := true, recurses := true, apart := false }
def WordWaysSaid : Prop := wordWaysRow.holds Try.pinned (OpenSpec.ofChange wordWaysSpec)

/-- ITS FALSE NEIGHBOUR: 'it returns false'. Refute it at one input. -/
def wordWaysWrong : ChangeSpec := { name := "wordWays", fn := fun _ => fun
  | [d1, d2, d3] => { results := [.lit (.bool false)], args := [d1, d2, d3] }
  | _ => none }
def WordWaysWrongFalsely : Prop := wordWaysRow.holds Try.pinned (OpenSpec.ofChange wordWaysWrong)

/-- 'fairkeep.ObjectBrackets': WHATEVER THE INPUT: true; the input reads as it did. -/
def objectBracketsSpec : ChangeSpec := { name := "objectBrackets", fn := fun _ => fun
  | [d1, d2, d3] => { results := [.lit (.bool true)], args := [d1, d2, d3] }
  | _ => none }
def objectBracketsRow : OpenClaim := { program := "ytkjlgfokgpdliaa", sum := "d1e673970548ad6a6f7e31881d7e93fa4d69bd8103fcfceec37a9df32fee3cca", func := "fairhand/fairkeep.ObjectBrackets", spec := "objectBrackets", apart := false }
def ObjectBracketsSaid : Prop := objectBracketsRow.holds Try.pinned (OpenSpec.ofChange objectBracketsSpec)

/-- ITS FALSE NEIGHBOUR: 'it returns false'. Refute it at one input. -/
def objectBracketsWrong : ChangeSpec := { name := "objectBrackets", fn := fun _ => fun
  | [d1, d2, d3] => { results := [.lit (.bool false)], args := [d1, d2, d3] }
  | _ => none }
def ObjectBracketsWrongFalsely : Prop := objectBracketsRow.holds Try.pinned (OpenSpec.ofChange objectBracketsWrong)

/-- 'fairkeep.ObjectIn': WHATEVER THE INPUT: true; the input reads as it did. -/
def objectInSpec : ChangeSpec := { name := "objectIn", fn := fun _ => fun
  | [d1, d2, d3] => { results := [.lit (.bool true)], args := [d1, d2, d3] }
  | _ => none }
def objectInRow : OpenClaim := { program := "ytkjlgfokgpdliaa", sum := "d1e673970548ad6a6f7e31881d7e93fa4d69bd8103fcfceec37a9df32fee3cca", func := "fairhand/fairkeep.ObjectIn", spec := "objectIn", unfollowed := true, recurses := true, apart := false }
def ObjectInSaid : Prop := objectInRow.holds Try.pinned (OpenSpec.ofChange objectInSpec)

/-- ITS FALSE NEIGHBOUR: 'it returns false'. Refute it at one input. -/
def objectInWrong : ChangeSpec := { name := "objectIn", fn := fun _ => fun
  | [d1, d2, d3] => { results := [.lit (.bool false)], args := [d1, d2, d3] }
  | _ => none }
def ObjectInWrongFalsely : Prop := objectInRow.holds Try.pinned (OpenSpec.ofChange objectInWrong)

/-- 'fairkeep.MotionTimes': WHATEVER THE INPUT: true; the input reads as it did. -/
def motionTimesSpec : ChangeSpec := { name := "motionTimes", fn := fun _ => fun
  | [d1, d2, d3, d4, d5] => { results := [.lit (.bool true)], args := [d1, d2, d3, d4, d5] }
  | _ => none }
def motionTimesRow : OpenClaim := { program := "ytkjlgfokgpdliaa", sum := "d1e673970548ad6a6f7e31881d7e93fa4d69bd8103fcfceec37a9df32fee3cca", func := "fairhand/fairkeep.MotionTimes", spec := "motionTimes", unfollowed := true, recurses := true, apart := false }
def MotionTimesSaid : Prop := motionTimesRow.holds Try.pinned (OpenSpec.ofChange motionTimesSpec)

/-- ITS FALSE NEIGHBOUR: 'it returns false'. Refute it at one input. -/
def motionTimesWrong : ChangeSpec := { name := "motionTimes", fn := fun _ => fun
  | [d1, d2, d3, d4, d5] => { results := [.lit (.bool false)], args := [d1, d2, d3, d4, d5] }
  | _ => none }
def MotionTimesWrongFalsely : Prop := motionTimesRow.holds Try.pinned (OpenSpec.ofChange motionTimesWrong)

/-- 'fairkeep.MotionIn': WHATEVER THE INPUT: true; the input reads as it did. -/
def motionInSpec : ChangeSpec := { name := "motionIn", fn := fun _ => fun
  | [d1, d2, d3] => { results := [.lit (.bool true)], args := [d1, d2, d3] }
  | _ => none }
def motionInRow : OpenClaim := { program := "ytkjlgfokgpdliaa", sum := "d1e673970548ad6a6f7e31881d7e93fa4d69bd8103fcfceec37a9df32fee3cca", func := "fairhand/fairkeep.MotionIn", spec := "motionIn", unfollowed := true, recurses := true, apart := false }
def MotionInSaid : Prop := motionInRow.holds Try.pinned (OpenSpec.ofChange motionInSpec)

/-- ITS FALSE NEIGHBOUR: 'it returns false'. Refute it at one input. -/
def motionInWrong : ChangeSpec := { name := "motionIn", fn := fun _ => fun
  | [d1, d2, d3] => { results := [.lit (.bool false)], args := [d1, d2, d3] }
  | _ => none }
def MotionInWrongFalsely : Prop := motionInRow.holds Try.pinned (OpenSpec.ofChange motionInWrong)

/-- 'fairkeep.MotionPair': WHATEVER THE INPUT: true; the input reads as it did. -/
def motionPairSpec : ChangeSpec := { name := "motionPair", fn := fun _ => fun
  | [d1, d2] => { results := [.lit (.bool true)], args := [d1, d2] }
  | _ => none }
def motionPairRow : OpenClaim := { program := "ytkjlgfokgpdliaa", sum := "d1e673970548ad6a6f7e31881d7e93fa4d69bd8103fcfceec37a9df32fee3cca", func := "fairhand/fairkeep.MotionPair", spec := "motionPair", unfollowed := true, recurses := true, apart := false }
def MotionPairSaid : Prop := motionPairRow.holds Try.pinned (OpenSpec.ofChange motionPairSpec)

/-- ITS FALSE NEIGHBOUR: 'it returns false'. Refute it at one input. -/
def motionPairWrong : ChangeSpec := { name := "motionPair", fn := fun _ => fun
  | [d1, d2] => { results := [.lit (.bool false)], args := [d1, d2] }
  | _ => none }
def MotionPairWrongFalsely : Prop := motionPairRow.holds Try.pinned (OpenSpec.ofChange motionPairWrong)

/- THE SECOND FORM. 'bulk': how many values and letters a reading holds, each counted each time it is reached (what is shared counts as often as it is met; a slice's spare places count too). A statement '..UptoSaid' is the law's where the arguments, and the package variables that the reading takes, are together of bulk at most 1048576: NARROWER than '..Said'. Prove '..Said' where nothing that the law and all that it calls make is longer than what came in: it says more and counts as full. Else prove '..UptoSaid'. A law counts once. -/
mutual
def uptoBulk {H : Type} : DataW H → Nat
  | .lit (.string bytes) => bytes.length + 1
  | .lit _ => 1
  | .nil => 1
  | .ptr d => uptoBulk d + 1
  | .slice elems spare => uptoBulkAll elems + uptoBulkAll spare + 1
  | .agg parts => uptoBulkAll parts + 1
  | .iface _ d => uptoBulk d + 1
  | .map entries => uptoBulkEntries entries + 1
  | .held _ => 1
def uptoBulkAll {H : Type} : List (DataW H) → Nat
  | [] => 0
  | d :: r => uptoBulk d + uptoBulkAll r
def uptoBulkEntries {H : Type} : List (Lit × DataW H) → Nat
  | [] => 0
  | x :: r => uptoBulkEntry x + uptoBulkEntries r
def uptoBulkEntry {H : Type} : Lit × DataW H → Nat
  | (.string bytes, d) => bytes.length + uptoBulk d + 1
  | (_, d) => uptoBulk d + 1
 end
def uptoSmall : (H : Type) → List (DataW H) → Bool := fun _ ds => decide (uptoBulkAll ds ≤ 1048576)
def OpenSpec.upto (s : _root_.Go.ChangeSpec) : _root_.Go.OpenSpec := { _root_.Go.OpenSpec.ofChange s with cond := some uptoSmall }

/-- 'fairkeep.WordBig', WHERE WHAT IT READS IS OF BULK AT MOST 1048576: true; the input reads as it did. -/
def wordBigUptoRow : OpenClaim := { program := "ytkjlgfokgpdliaa", sum := "d1e673970548ad6a6f7e31881d7e93fa4d69bd8103fcfceec37a9df32fee3cca", func := "fairhand/fairkeep.WordBig", spec := "wordBig", apart := false, narrowed := true }
def WordBigUptoSaid : Prop := wordBigUptoRow.holds Try.pinned (OpenSpec.upto wordBigSpec)

/-- 'fairkeep.WordWays', WHERE WHAT IT READS IS OF BULK AT MOST 1048576: true; the input reads as it did. -/
def wordWaysUptoRow : OpenClaim := { program := "ytkjlgfokgpdliaa", sum := "d1e673970548ad6a6f7e31881d7e93fa4d69bd8103fcfceec37a9df32fee3cca", func := "fairhand/fairkeep.WordWays", spec := "wordWays", unfollowed := true, recurses := true, apart := false, narrowed := true }
def WordWaysUptoSaid : Prop := wordWaysUptoRow.holds Try.pinned (OpenSpec.upto wordWaysSpec)

/-- 'fairkeep.ObjectBrackets', WHERE WHAT IT READS IS OF BULK AT MOST 1048576: true; the input reads as it did. -/
def objectBracketsUptoRow : OpenClaim := { program := "ytkjlgfokgpdliaa", sum := "d1e673970548ad6a6f7e31881d7e93fa4d69bd8103fcfceec37a9df32fee3cca", func := "fairhand/fairkeep.ObjectBrackets", spec := "objectBrackets", apart := false, narrowed := true }
def ObjectBracketsUptoSaid : Prop := objectBracketsUptoRow.holds Try.pinned (OpenSpec.upto objectBracketsSpec)

/-- 'fairkeep.ObjectIn', WHERE WHAT IT READS IS OF BULK AT MOST 1048576: true; the input reads as it did. -/
def objectInUptoRow : OpenClaim := { program := "ytkjlgfokgpdliaa", sum := "d1e673970548ad6a6f7e31881d7e93fa4d69bd8103fcfceec37a9df32fee3cca", func := "fairhand/fairkeep.ObjectIn", spec := "objectIn", unfollowed := true, recurses := true, apart := false, narrowed := true }
def ObjectInUptoSaid : Prop := objectInUptoRow.holds Try.pinned (OpenSpec.upto objectInSpec)

/-- 'fairkeep.MotionTimes', WHERE WHAT IT READS IS OF BULK AT MOST 1048576: true; the input reads as it did. -/
def motionTimesUptoRow : OpenClaim := { program := "ytkjlgfokgpdliaa", sum := "d1e673970548ad6a6f7e31881d7e93fa4d69bd8103fcfceec37a9df32fee3cca", func := "fairhand/fairkeep.MotionTimes", spec := "motionTimes", unfollowed := true, recurses := true, apart := false, narrowed := true }
def MotionTimesUptoSaid : Prop := motionTimesUptoRow.holds Try.pinned (OpenSpec.upto motionTimesSpec)

/-- 'fairkeep.MotionIn', WHERE WHAT IT READS IS OF BULK AT MOST 1048576: true; the input reads as it did. -/
def motionInUptoRow : OpenClaim := { program := "ytkjlgfokgpdliaa", sum := "d1e673970548ad6a6f7e31881d7e93fa4d69bd8103fcfceec37a9df32fee3cca", func := "fairhand/fairkeep.MotionIn", spec := "motionIn", unfollowed := true, recurses := true, apart := false, narrowed := true }
def MotionInUptoSaid : Prop := motionInUptoRow.holds Try.pinned (OpenSpec.upto motionInSpec)

/-- 'fairkeep.MotionPair', WHERE WHAT IT READS IS OF BULK AT MOST 1048576: true; the input reads as it did. -/
def motionPairUptoRow : OpenClaim := { program := "ytkjlgfokgpdliaa", sum := "d1e673970548ad6a6f7e31881d7e93fa4d69bd8103fcfceec37a9df32fee3cca", func := "fairhand/fairkeep.MotionPair", spec := "motionPair", unfollowed := true, recurses := true, apart := false, narrowed := true }
def MotionPairUptoSaid : Prop := motionPairUptoRow.holds Try.pinned (OpenSpec.upto motionPairSpec)

end Rows
end Go.Proofs.Ytkjlgfokgpdliaa
