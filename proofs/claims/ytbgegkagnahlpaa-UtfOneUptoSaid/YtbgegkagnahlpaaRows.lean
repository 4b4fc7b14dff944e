/-
  No cell of these rows narrows 'for every input' (looked for: loops, veiled, ifaces, maps, wideKeys, modest, calm, conditions, laid).
  DERIVED. THE GIVEN ROWS OF THIS SEAT. 7 by the template 'for every input the law returns true; each argument reads behind the call as it read before'; 0 by the template 'total and deterministic' (their statements: YtbgegkagnahlpaaTotals.lean).
  GIVEN WITH THE SEED: the statements are not yours to turn. If you find one false, say at which input.
  Laid BY PROGRAM, IN A SANDBOX (cutbox-rows.mjs): the forced cells as the released guide's own fill.sh prints them over the translation 2a8acd72018f625a… (all of the seat's roots in one cut). By AI agents, Wed Nov 11 2026. No macro, syntax, notation, axiom, sorry.
-/
import Derived.Test.YtbgegkagnahlpaaChecked
import GoSem.Claim
import GoSem.ClaimJoined
import GoSem.ClaimMapViews
import Derived.JoinedTies
import Derived.KernelRfl
namespace Go.Proofs.Ytbgegkagnahlpaa
/- THE CELL 'sum', in the pinned program and in every row, IS THE sha256 OF THE DUMP (.gsa) THAT YtbgegkagnahlpaaProg.lean LOADS. Nothing in Lean hashes anything: it is a label: what it is worth is what the hold of that sum in a sandbox is worth. -/
noncomputable def Try.pinned : Pinned := { name := "ytbgegkagnahlpaa", sum := "2a8acd72018f625ad2ff0f3a1c0a9192de4b23293913203646170a92ff5dd29f", checked := Try.checked }
namespace Rows
def none {H : Type} : Left H := { results := [], args := [] }

/-- 'fairkeep.UtfOrder': WHATEVER THE INPUT: true; the input reads as it did. -/
def utfOrderSpec : ChangeSpec := { name := "utfOrder", fn := fun _ => fun
  | [d1, d2] => { results := [.lit (.bool true)], args := [d1, d2] }
  | _ => none }
def utfOrderRow : OpenClaim := { program := "ytbgegkagnahlpaa", sum := "2a8acd72018f625ad2ff0f3a1c0a9192de4b23293913203646170a92ff5dd29f", func := "fairhand/fairkeep.UtfOrder", spec := "utfOrder", apart := false }
def UtfOrderSaid : Prop := utfOrderRow.holds Try.pinned (OpenSpec.ofChange utfOrderSpec)

/-- ITS FALSE NEIGHBOUR: 'it returns false'. Refute it at one input. -/
def utfOrderWrong : ChangeSpec := { name := "utfOrder", fn := fun _ => fun
  | [d1, d2] => { results := [.lit (.bool false)], args := [d1, d2] }
  | _ => none }
def UtfOrderWrongFalsely : Prop := utfOrderRow.holds Try.pinned (OpenSpec.ofChange utfOrderWrong)

/-- 'fairkeep.UtfSync': WHATEVER THE INPUT: true; the input reads as it did. -/
def utfSyncSpec : ChangeSpec := { name := "utfSync", fn := fun _ => fun
  | [d1, d2] => { results := [.lit (.bool true)], args := [d1, d2] }
  | _ => none }
def utfSyncRow : OpenClaim := { program := "ytbgegkagnahlpaa", sum := "2a8acd72018f625ad2ff0f3a1c0a9192de4b23293913203646170a92ff5dd29f", func := "fairhand/fairkeep.UtfSync", spec := "utfSync", apart := false }
def UtfSyncSaid : Prop := utfSyncRow.holds Try.pinned (OpenSpec.ofChange utfSyncSpec)

/-- ITS FALSE NEIGHBOUR: 'it returns false'. Refute it at one input. -/
def utfSyncWrong : ChangeSpec := { name := "utfSync", fn := fun _ => fun
  | [d1, d2] => { results := [.lit (.bool false)], args := [d1, d2] }
  | _ => none }
def UtfSyncWrongFalsely : Prop := utfSyncRow.holds Try.pinned (OpenSpec.ofChange utfSyncWrong)

/-- 'fairkeep.UtfOne': WHATEVER THE INPUT: true; the input reads as it did. -/
def utfOneSpec : ChangeSpec := { name := "utfOne", fn := fun _ => fun
  | [d] => { results := [.lit (.bool true)], args := [d] }
  | _ => none }
def utfOneRow : OpenClaim := { program := "ytbgegkagnahlpaa", sum := "2a8acd72018f625ad2ff0f3a1c0a9192de4b23293913203646170a92ff5dd29f", func := "fairhand/fairkeep.UtfOne", spec := "utfOne", apart := false }
def UtfOneSaid : Prop := utfOneRow.holds Try.pinned (OpenSpec.ofChange utfOneSpec)

/-- ITS FALSE NEIGHBOUR: 'it returns false'. Refute it at one input. -/
def utfOneWrong : ChangeSpec := { name := "utfOne", fn := fun _ => fun
  | [d] => { results := [.lit (.bool false)], args := [d] }
  | _ => none }
def UtfOneWrongFalsely : Prop := utfOneRow.holds Try.pinned (OpenSpec.ofChange utfOneWrong)

/-- 'fairkeep.UtfBack': WHATEVER THE INPUT: true; the input reads as it did. -/
def utfBackSpec : ChangeSpec := { name := "utfBack", fn := fun _ => fun
  | [d1, d2, d3] => { results := [.lit (.bool true)], args := [d1, d2, d3] }
  | _ => none }
def utfBackRow : OpenClaim := { program := "ytbgegkagnahlpaa", sum := "2a8acd72018f625ad2ff0f3a1c0a9192de4b23293913203646170a92ff5dd29f", func := "fairhand/fairkeep.UtfBack", spec := "utfBack", apart := false }
def UtfBackSaid : Prop := utfBackRow.holds Try.pinned (OpenSpec.ofChange utfBackSpec)

/-- ITS FALSE NEIGHBOUR: 'it returns false'. Refute it at one input. -/
def utfBackWrong : ChangeSpec := { name := "utfBack", fn := fun _ => fun
  | [d1, d2, d3] => { results := [.lit (.bool false)], args := [d1, d2, d3] }
  | _ => none }
def UtfBackWrongFalsely : Prop := utfBackRow.holds Try.pinned (OpenSpec.ofChange utfBackWrong)

/-- 'fairkeep.FeedWaits': WHATEVER THE INPUT: true; the input reads as it did. -/
def feedWaitsSpec : ChangeSpec := { name := "feedWaits", fn := fun _ => fun
  | [d] => { results := [.lit (.bool true)], args := [d] }
  | _ => none }
def feedWaitsRow : OpenClaim := { program := "ytbgegkagnahlpaa", sum := "2a8acd72018f625ad2ff0f3a1c0a9192de4b23293913203646170a92ff5dd29f", func := "fairhand/fairkeep.FeedWaits", spec := "feedWaits", apart := false }
def FeedWaitsSaid : Prop := feedWaitsRow.holds Try.pinned (OpenSpec.ofChange feedWaitsSpec)

/-- ITS FALSE NEIGHBOUR: 'it returns false'. Refute it at one input. -/
def feedWaitsWrong : ChangeSpec := { name := "feedWaits", fn := fun _ => fun
  | [d] => { results := [.lit (.bool false)], args := [d] }
  | _ => none }
def FeedWaitsWrongFalsely : Prop := feedWaitsRow.holds Try.pinned (OpenSpec.ofChange feedWaitsWrong)

/-- 'fairkeep.FeedCuts': WHATEVER THE INPUT: true; the input reads as it did. -/
def feedCutsSpec : ChangeSpec := { name := "feedCuts", fn := fun _ => fun
  | [d1, d2, d3] => { results := [.lit (.bool true)], args := [d1, d2, d3] }
  | _ => none }
def feedCutsRow : OpenClaim := { program := "ytbgegkagnahlpaa", sum := "2a8acd72018f625ad2ff0f3a1c0a9192de4b23293913203646170a92ff5dd29f", func := "fairhand/fairkeep.FeedCuts", spec := "feedCuts", apart := false }
def FeedCutsSaid : Prop := feedCutsRow.holds Try.pinned (OpenSpec.ofChange feedCutsSpec)

/-- ITS FALSE NEIGHBOUR: 'it returns false'. Refute it at one input. -/
def feedCutsWrong : ChangeSpec := { name := "feedCuts", fn := fun _ => fun
  | [d1, d2, d3] => { results := [.lit (.bool false)], args := [d1, d2, d3] }
  | _ => none }
def FeedCutsWrongFalsely : Prop := feedCutsRow.holds Try.pinned (OpenSpec.ofChange feedCutsWrong)

/-- 'fairkeep.FeedGood': WHATEVER THE INPUT: true; the input reads as it did. -/
def feedGoodSpec : ChangeSpec := { name := "feedGood", fn := fun _ => fun
  | [d1, d2] => { results := [.lit (.bool true)], args := [d1, d2] }
  | _ => none }
def feedGoodRow : OpenClaim := { program := "ytbgegkagnahlpaa", sum := "2a8acd72018f625ad2ff0f3a1c0a9192de4b23293913203646170a92ff5dd29f", func := "fairhand/fairkeep.FeedGood", spec := "feedGood", apart := false }
def FeedGoodSaid : Prop := feedGoodRow.holds Try.pinned (OpenSpec.ofChange feedGoodSpec)

/-- ITS FALSE NEIGHBOUR: 'it returns false'. Refute it at one input. -/
def feedGoodWrong : ChangeSpec := { name := "feedGood", fn := fun _ => fun
  | [d1, d2] => { results := [.lit (.bool false)], args := [d1, d2] }
  | _ => none }
def FeedGoodWrongFalsely : Prop := feedGoodRow.holds Try.pinned (OpenSpec.ofChange feedGoodWrong)

/- THE SECOND FORM. 'bulk': how many values and letters a reading holds, each counted each time it is reached (what is shared counts as often as it is met; a slice's spare places count too). A statement '..UptoSaid' is the law's where the arguments, and the package variables that the reading takes, are together of bulk at most 1048576: NARROWER than '..Said'. Prove '..Said' where nothing that the law and all that it calls make is longer than what came in: it says more and counts as full. Else prove '..UptoSaid'. A law counts once. -/
mutual
def uptoBulk {H : Type} : DataW H → Nat
  | .lit (.string bytes) => bytes.length + 1
  | .lit _ => 1
  | .nil => 1
  | .ptr d => uptoBulk d + 1
  | .slice elems spare => uptoBulkAll elems + uptoBulkAll spare + 1
  | .agg parts => uptoBulkAll parts + 1
  | .iface _ d => uptoBulk d + 1
  | .map entries => uptoBulkEntries entries + 1
  | .held _ => 1
def uptoBulkAll {H : Type} : List (DataW H) → Nat
  | [] => 0
  | d :: r => uptoBulk d + uptoBulkAll r
def uptoBulkEntries {H : Type} : List (Lit × DataW H) → Nat
  | [] => 0
  | x :: r => uptoBulkEntry x + uptoBulkEntries r
def uptoBulkEntry {H : Type} : Lit × DataW H → Nat
  | (.string bytes, d) => bytes.length + uptoBulk d + 1
  | (_, d) => uptoBulk d + 1
 end
def uptoSmall : (H : Type) → List (DataW H) → Bool := fun _ ds => decide (uptoBulkAll ds ≤ 1048576)
def OpenSpec.upto (s : _root_.Go.ChangeSpec) : _root_.Go.OpenSpec := { _root_.Go.OpenSpec.ofChange s with cond := some uptoSmall }

/-- 'fairkeep.UtfOrder', WHERE WHAT IT READS IS OF BULK AT MOST 1048576: true; the input reads as it did. -/
def utfOrderUptoRow : OpenClaim := { program := "ytbgegkagnahlpaa", sum := "2a8acd72018f625ad2ff0f3a1c0a9192de4b23293913203646170a92ff5dd29f", func := "fairhand/fairkeep.UtfOrder", spec := "utfOrder", apart := false, narrowed := true }
def UtfOrderUptoSaid : Prop := utfOrderUptoRow.holds Try.pinned (OpenSpec.upto utfOrderSpec)

/-- 'fairkeep.UtfSync', WHERE WHAT IT READS IS OF BULK AT MOST 1048576: true; the input reads as it did. -/
def utfSyncUptoRow : OpenClaim := { program := "ytbgegkagnahlpaa", sum := "2a8acd72018f625ad2ff0f3a1c0a9192de4b23293913203646170a92ff5dd29f", func := "fairhand/fairkeep.UtfSync", spec := "utfSync", apart := false, narrowed := true }
def UtfSyncUptoSaid : Prop := utfSyncUptoRow.holds Try.pinned (OpenSpec.upto utfSyncSpec)

/-- 'fairkeep.UtfOne', WHERE WHAT IT READS IS OF BULK AT MOST 1048576: true; the input reads as it did. -/
def utfOneUptoRow : OpenClaim := { program := "ytbgegkagnahlpaa", sum := "2a8acd72018f625ad2ff0f3a1c0a9192de4b23293913203646170a92ff5dd29f", func := "fairhand/fairkeep.UtfOne", spec := "utfOne", apart := false, narrowed := true }
def UtfOneUptoSaid : Prop := utfOneUptoRow.holds Try.pinned (OpenSpec.upto utfOneSpec)

/-- 'fairkeep.UtfBack', WHERE WHAT IT READS IS OF BULK AT MOST 1048576: true; the input reads as it did. -/
def utfBackUptoRow : OpenClaim := { program := "ytbgegkagnahlpaa", sum := "2a8acd72018f625ad2ff0f3a1c0a9192de4b23293913203646170a92ff5dd29f", func := "fairhand/fairkeep.UtfBack", spec := "utfBack", apart := false, narrowed := true }
def UtfBackUptoSaid : Prop := utfBackUptoRow.holds Try.pinned (OpenSpec.upto utfBackSpec)

/-- 'fairkeep.FeedWaits', WHERE WHAT IT READS IS OF BULK AT MOST 1048576: true; the input reads as it did. -/
def feedWaitsUptoRow : OpenClaim := { program := "ytbgegkagnahlpaa", sum := "2a8acd72018f625ad2ff0f3a1c0a9192de4b23293913203646170a92ff5dd29f", func := "fairhand/fairkeep.FeedWaits", spec := "feedWaits", apart := false, narrowed := true }
def FeedWaitsUptoSaid : Prop := feedWaitsUptoRow.holds Try.pinned (OpenSpec.upto feedWaitsSpec)

/-- 'fairkeep.FeedCuts', WHERE WHAT IT READS IS OF BULK AT MOST 1048576: true; the input reads as it did. -/
def feedCutsUptoRow : OpenClaim := { program := "ytbgegkagnahlpaa", sum := "2a8acd72018f625ad2ff0f3a1c0a9192de4b23293913203646170a92ff5dd29f", func := "fairhand/fairkeep.FeedCuts", spec := "feedCuts", apart := false, narrowed := true }
def FeedCutsUptoSaid : Prop := feedCutsUptoRow.holds Try.pinned (OpenSpec.upto feedCutsSpec)

/-- 'fairkeep.FeedGood', WHERE WHAT IT READS IS OF BULK AT MOST 1048576: true; the input reads as it did. -/
def feedGoodUptoRow : OpenClaim := { program := "ytbgegkagnahlpaa", sum := "2a8acd72018f625ad2ff0f3a1c0a9192de4b23293913203646170a92ff5dd29f", func := "fairhand/fairkeep.FeedGood", spec := "feedGood", apart := false, narrowed := true }
def FeedGoodUptoSaid : Prop := feedGoodUptoRow.holds Try.pinned (OpenSpec.upto feedGoodSpec)

end Rows
end Go.Proofs.Ytbgegkagnahlpaa
