/-
  No cell of these rows narrows 'for every input' (looked for: loops, veiled, ifaces, maps, wideKeys, modest, calm, conditions, laid).
  DERIVED. THE GIVEN ROWS OF THIS SEAT. 7 by the template 'for every input the law returns true; each argument reads behind the call as it read before'; 0 by the template 'total and deterministic' (their statements: YtbdiiopllmhfeaaTotals.lean).
  GIVEN WITH THE SEED: the statements are not yours to turn. If you find one false, say at which input.
  Laid BY PROGRAM, IN A SANDBOX (cutbox-rows.mjs): the forced cells as the released guide's own fill.sh prints them over the translation 08fee234a02de03d… (all of the seat's roots in one cut). By AI agents, Wed Nov 11 2026. No macro, syntax, notation, axiom, sorry.
-/
import Derived.Test.YtbdiiopllmhfeaaChecked
import GoSem.Claim
import GoSem.ClaimJoined
import GoSem.ClaimMapViews
import Derived.JoinedTies
import Derived.KernelRfl
namespace Go.Proofs.Ytbdiiopllmhfeaa
/- THE CELL 'sum', in the pinned program and in every row, IS THE sha256 OF THE DUMP (.gsa) THAT YtbdiiopllmhfeaaProg.lean LOADS. Nothing in Lean hashes anything: it is a label: what it is worth is what the hold of that sum in a sandbox is worth. -/
noncomputable def Try.pinned : Pinned := { name := "ytbdiiopllmhfeaa", sum := "08fee234a02de03da3d8ac00be91d2990380fb2f39a8bd38ae717c633e7ffc67", checked := Try.checked }
namespace Rows
def none {H : Type} : Left H := { results := [], args := [] }

/-- 'fairkeep.MarkStays': WHATEVER THE INPUT: true; the input reads as it did. -/
def markStaysSpec : ChangeSpec := { name := "markStays", fn := fun _ => fun
  | [d1, d2, d3, d4] => { results := [.lit (.bool true)], args := [d1, d2, d3, d4] }
  | _ => none }
def markStaysRow : OpenClaim := { program := "ytbdiiopllmhfeaa", sum := "08fee234a02de03da3d8ac00be91d2990380fb2f39a8bd38ae717c633e7ffc67", func := "fairhand/fairkeep.MarkStays", spec := "markStays", unfollowed := true, recurses := true, apart := false }
def MarkStaysSaid : Prop := markStaysRow.holds Try.pinned (OpenSpec.ofChange markStaysSpec)

/-- ITS FALSE NEIGHBOUR: 'it returns false'. Refute it at one input. -/
def markStaysWrong : ChangeSpec := { name := "markStays", fn := fun _ => fun
  | [d1, d2, d3, d4] => { results := [.lit (.bool false)], args := [d1, d2, d3, d4] }
  | _ => none }
def MarkStaysWrongFalsely : Prop := markStaysRow.holds Try.pinned (OpenSpec.ofChange markStaysWrong)

/-- 'fairkeep.SpliceBack': WHATEVER THE INPUT: true; the input reads as it did. -/
def spliceBackSpec : ChangeSpec := { name := "spliceBack", fn := fun _ => fun
  | [d1, d2] => { results := [.lit (.bool true)], args := [d1, d2] }
  | _ => none }
def spliceBackRow : OpenClaim := { program := "ytbdiiopllmhfeaa", sum := "08fee234a02de03da3d8ac00be91d2990380fb2f39a8bd38ae717c633e7ffc67", func := "fairhand/fairkeep.SpliceBack", spec := "spliceBack", unfollowed := true, recurses := true, apart := false }
def SpliceBackSaid : Prop := spliceBackRow.holds Try.pinned (OpenSpec.ofChange spliceBackSpec)

/-- ITS FALSE NEIGHBOUR: 'it returns false'. Refute it at one input. -/
def spliceBackWrong : ChangeSpec := { name := "spliceBack", fn := fun _ => fun
  | [d1, d2] => { results := [.lit (.bool false)], args := [d1, d2] }
  | _ => none }
def SpliceBackWrongFalsely : Prop := spliceBackRow.holds Try.pinned (OpenSpec.ofChange spliceBackWrong)

/-- 'fairkeep.SpliceBetween': WHATEVER THE INPUT: true; the input reads as it did. -/
def spliceBetweenSpec : ChangeSpec := { name := "spliceBetween", fn := fun _ => fun
  | [d1, d2] => { results := [.lit (.bool true)], args := [d1, d2] }
  | _ => none }
def spliceBetweenRow : OpenClaim := { program := "ytbdiiopllmhfeaa", sum := "08fee234a02de03da3d8ac00be91d2990380fb2f39a8bd38ae717c633e7ffc67", func := "fairhand/fairkeep.SpliceBetween", spec := "spliceBetween", unfollowed := true, recurses := true, apart := false }
def SpliceBetweenSaid : Prop := spliceBetweenRow.holds Try.pinned (OpenSpec.ofChange spliceBetweenSpec)

/-- ITS FALSE NEIGHBOUR: 'it returns false'. Refute it at one input. -/
def spliceBetweenWrong : ChangeSpec := { name := "spliceBetween", fn := fun _ => fun
  | [d1, d2] => { results := [.lit (.bool false)], args := [d1, d2] }
  | _ => none }
def SpliceBetweenWrongFalsely : Prop := spliceBetweenRow.holds Try.pinned (OpenSpec.ofChange spliceBetweenWrong)

/-- 'fairkeep.MarkBack': WHATEVER THE INPUT: true; the input reads as it did. -/
def markBackSpec : ChangeSpec := { name := "markBack", fn := fun _ => fun
  | [d1, d2, d3] => { results := [.lit (.bool true)], args := [d1, d2, d3] }
  | _ => none }
def markBackRow : OpenClaim := { program := "ytbdiiopllmhfeaa", sum := "08fee234a02de03da3d8ac00be91d2990380fb2f39a8bd38ae717c633e7ffc67", func := "fairhand/fairkeep.MarkBack", spec := "markBack", unfollowed := true, recurses := true, apart := false }
def MarkBackSaid : Prop := markBackRow.holds Try.pinned (OpenSpec.ofChange markBackSpec)

/-- ITS FALSE NEIGHBOUR: 'it returns false'. Refute it at one input. -/
def markBackWrong : ChangeSpec := { name := "markBack", fn := fun _ => fun
  | [d1, d2, d3] => { results := [.lit (.bool false)], args := [d1, d2, d3] }
  | _ => none }
def MarkBackWrongFalsely : Prop := markBackRow.holds Try.pinned (OpenSpec.ofChange markBackWrong)

/-- 'fairkeep.SpliceMeets': WHATEVER THE INPUT: true; the input reads as it did. -/
def spliceMeetsSpec : ChangeSpec := { name := "spliceMeets", fn := fun _ => fun
  | [d1, d2, d3, d4] => { results := [.lit (.bool true)], args := [d1, d2, d3, d4] }
  | _ => none }
def spliceMeetsRow : OpenClaim := { program := "ytbdiiopllmhfeaa", sum := "08fee234a02de03da3d8ac00be91d2990380fb2f39a8bd38ae717c633e7ffc67", func := "fairhand/fairkeep.SpliceMeets", spec := "spliceMeets", unfollowed := true, recurses := true, apart := false }
def SpliceMeetsSaid : Prop := spliceMeetsRow.holds Try.pinned (OpenSpec.ofChange spliceMeetsSpec)

/-- ITS FALSE NEIGHBOUR: 'it returns false'. Refute it at one input. -/
def spliceMeetsWrong : ChangeSpec := { name := "spliceMeets", fn := fun _ => fun
  | [d1, d2, d3, d4] => { results := [.lit (.bool false)], args := [d1, d2, d3, d4] }
  | _ => none }
def SpliceMeetsWrongFalsely : Prop := spliceMeetsRow.holds Try.pinned (OpenSpec.ofChange spliceMeetsWrong)

/-- 'fairkeep.SpliceNone': WHATEVER THE INPUT: true; the input reads as it did. -/
def spliceNoneSpec : ChangeSpec := { name := "spliceNone", fn := fun _ => fun
  | [d1, d2, d3] => { results := [.lit (.bool true)], args := [d1, d2, d3] }
  | _ => none }
def spliceNoneRow : OpenClaim := { program := "ytbdiiopllmhfeaa", sum := "08fee234a02de03da3d8ac00be91d2990380fb2f39a8bd38ae717c633e7ffc67", func := "fairhand/fairkeep.SpliceNone", spec := "spliceNone", unfollowed := true, recurses := true, apart := false }
def SpliceNoneSaid : Prop := spliceNoneRow.holds Try.pinned (OpenSpec.ofChange spliceNoneSpec)

/-- ITS FALSE NEIGHBOUR: 'it returns false'. Refute it at one input. -/
def spliceNoneWrong : ChangeSpec := { name := "spliceNone", fn := fun _ => fun
  | [d1, d2, d3] => { results := [.lit (.bool false)], args := [d1, d2, d3] }
  | _ => none }
def SpliceNoneWrongFalsely : Prop := spliceNoneRow.holds Try.pinned (OpenSpec.ofChange spliceNoneWrong)

/-- 'fairkeep.SpliceOwn': WHATEVER THE INPUT: true; the input reads as it did. -/
def spliceOwnSpec : ChangeSpec := { name := "spliceOwn", fn := fun _ => fun
  | [d1, d2, d3, d4] => { results := [.lit (.bool true)], args := [d1, d2, d3, d4] }
  | _ => none }
def spliceOwnRow : OpenClaim := { program := "ytbdiiopllmhfeaa", sum := "08fee234a02de03da3d8ac00be91d2990380fb2f39a8bd38ae717c633e7ffc67", func := "fairhand/fairkeep.SpliceOwn", spec := "spliceOwn", unfollowed := true, recurses := true, apart := false }
def SpliceOwnSaid : Prop := spliceOwnRow.holds Try.pinned (OpenSpec.ofChange spliceOwnSpec)

/-- ITS FALSE NEIGHBOUR: 'it returns false'. Refute it at one input. -/
def spliceOwnWrong : ChangeSpec := { name := "spliceOwn", fn := fun _ => fun
  | [d1, d2, d3, d4] => { results := [.lit (.bool false)], args := [d1, d2, d3, d4] }
  | _ => none }
def SpliceOwnWrongFalsely : Prop := spliceOwnRow.holds Try.pinned (OpenSpec.ofChange spliceOwnWrong)

/- THE SECOND FORM. 'bulk': how many values and letters a reading holds, each counted each time it is reached (what is shared counts as often as it is met; a slice's spare places count too). A statement '..UptoSaid' is the law's where the arguments, and the package variables that the reading takes, are together of bulk at most 1048576: NARROWER than '..Said'. Prove '..Said' where nothing that the law and all that it calls make is longer than what came in: it says more and counts as full. Else prove '..UptoSaid'. A law counts once. -/
mutual
def uptoBulk {H : Type} : DataW H → Nat
  | .lit (.string bytes) => bytes.length + 1
  | .lit _ => 1
  | .nil => 1
  | .ptr d => uptoBulk d + 1
  | .slice elems spare => uptoBulkAll elems + uptoBulkAll spare + 1
  | .agg parts => uptoBulkAll parts + 1
  | .iface _ d => uptoBulk d + 1
  | .map entries => uptoBulkEntries entries + 1
  | .held _ => 1
def uptoBulkAll {H : Type} : List (DataW H) → Nat
  | [] => 0
  | d :: r => uptoBulk d + uptoBulkAll r
def uptoBulkEntries {H : Type} : List (Lit × DataW H) → Nat
  | [] => 0
  | x :: r => uptoBulkEntry x + uptoBulkEntries r
def uptoBulkEntry {H : Type} : Lit × DataW H → Nat
  | (.string bytes, d) => bytes.length + uptoBulk d + 1
  | (_, d) => uptoBulk d + 1
 end
def uptoSmall : (H : Type) → List (DataW H) → Bool := fun _ ds => decide (uptoBulkAll ds ≤ 1048576)
def OpenSpec.upto (s : _root_.Go.ChangeSpec) : _root_.Go.OpenSpec := { _root_.Go.OpenSpec.ofChange s with cond := some uptoSmall }

/-- 'fairkeep.MarkStays', WHERE WHAT IT READS IS OF BULK AT MOST 1048576: true; the input reads as it did. -/
def markStaysUptoRow : OpenClaim := { program := "ytbdiiopllmhfeaa", sum := "08fee234a02de03da3d8ac00be91d2990380fb2f39a8bd38ae717c633e7ffc67", func := "fairhand/fairkeep.MarkStays", spec := "markStays", unfollowed := true, recurses := true, apart := false, narrowed := true }
def MarkStaysUptoSaid : Prop := markStaysUptoRow.holds Try.pinned (OpenSpec.upto markStaysSpec)

/-- 'fairkeep.SpliceBack', WHERE WHAT IT READS IS OF BULK AT MOST 1048576: true; the input reads as it did. -/
def spliceBackUptoRow : OpenClaim := { program := "ytbdiiopllmhfeaa", sum := "08fee234a02de03da3d8ac00be91d2990380fb2f39a8bd38ae717c633e7ffc67", func := "fairhand/fairkeep.SpliceBack", spec := "spliceBack", unfollowed := true, recurses := true, apart := false, narrowed := true }
def SpliceBackUptoSaid : Prop := spliceBackUptoRow.holds Try.pinned (OpenSpec.upto spliceBackSpec)

/-- 'fairkeep.SpliceBetween', WHERE WHAT IT READS IS OF BULK AT MOST 1048576: true; the input reads as it did. -/
def spliceBetweenUptoRow : OpenClaim := { program := "ytbdiiopllmhfeaa", sum := "08fee234a02de03da3d8ac00be91d2990380fb2f39a8bd38ae717c633e7ffc67", func := "fairhand/fairkeep.SpliceBetween", spec := "spliceBetween", unfollowed := true, recurses := true, apart := false, narrowed := true }
def SpliceBetweenUptoSaid : Prop := spliceBetweenUptoRow.holds Try.pinned (OpenSpec.upto spliceBetweenSpec)

/-- 'fairkeep.MarkBack', WHERE WHAT IT READS IS OF BULK AT MOST 1048576: true; the input reads as it did. -/
def markBackUptoRow : OpenClaim := { program := "ytbdiiopllmhfeaa", sum := "08fee234a02de03da3d8ac00be91d2990380fb2f39a8bd38ae717c633e7ffc67", func := "fairhand/fairkeep.MarkBack", spec := "markBack", unfollowed := true, recurses := true, apart := false, narrowed := true }
def MarkBackUptoSaid : Prop := markBackUptoRow.holds Try.pinned (OpenSpec.upto markBackSpec)

/-- 'fairkeep.SpliceMeets', WHERE WHAT IT READS IS OF BULK AT MOST 1048576: true; the input reads as it did. -/
def spliceMeetsUptoRow : OpenClaim := { program := "ytbdiiopllmhfeaa", sum := "08fee234a02de03da3d8ac00be91d2990380fb2f39a8bd38ae717c633e7ffc67", func := "fairhand/fairkeep.SpliceMeets", spec := "spliceMeets", unfollowed := true, recurses := true, apart := false, narrowed := true }
def SpliceMeetsUptoSaid : Prop := spliceMeetsUptoRow.holds Try.pinned (OpenSpec.upto spliceMeetsSpec)

/-- 'fairkeep.SpliceNone', WHERE WHAT IT READS IS OF BULK AT MOST 1048576: true; the input reads as it did. -/
def spliceNoneUptoRow : OpenClaim := { program := "ytbdiiopllmhfeaa", sum := "08fee234a02de03da3d8ac00be91d2990380fb2f39a8bd38ae717c633e7ffc67", func := "fairhand/fairkeep.SpliceNone", spec := "spliceNone", unfollowed := true, recurses := true, apart := false, narrowed := true }
def SpliceNoneUptoSaid : Prop := spliceNoneUptoRow.holds Try.pinned (OpenSpec.upto spliceNoneSpec)

/-- 'fairkeep.SpliceOwn', WHERE WHAT IT READS IS OF BULK AT MOST 1048576: true; the input reads as it did. -/
def spliceOwnUptoRow : OpenClaim := { program := "ytbdiiopllmhfeaa", sum := "08fee234a02de03da3d8ac00be91d2990380fb2f39a8bd38ae717c633e7ffc67", func := "fairhand/fairkeep.SpliceOwn", spec := "spliceOwn", unfollowed := true, recurses := true, apart := false, narrowed := true }
def SpliceOwnUptoSaid : Prop := spliceOwnUptoRow.holds Try.pinned (OpenSpec.upto spliceOwnSpec)

end Rows
end Go.Proofs.Ytbdiiopllmhfeaa
