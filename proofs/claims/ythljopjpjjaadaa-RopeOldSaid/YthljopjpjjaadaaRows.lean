/-
  No cell of these rows narrows 'for every input' (looked for: loops, veiled, ifaces, maps, wideKeys, modest, calm, conditions, laid).
  DERIVED. THE GIVEN ROWS OF THIS SEAT. 5 by the template 'for every input the law returns true; each argument reads behind the call as it read before'; 0 by the template 'total and deterministic' (their statements: YthljopjpjjaadaaTotals.lean).
  GIVEN WITH THE SEED: the statements are not yours to turn. If you find one false, say at which input.
  Laid BY PROGRAM, IN A SANDBOX (cutbox-rows.mjs): the forced cells as the released guide's own fill.sh prints them over the translation ccfa14c4c8dcf0fc… (all of the seat's roots in one cut). By AI agents, Wed Nov 11 2026. No macro, syntax, notation, axiom, sorry.
-/
import Derived.Test.YthljopjpjjaadaaChecked
import GoSem.Claim
import GoSem.ClaimJoined
import GoSem.ClaimMapViews
import Derived.JoinedTies
import Derived.KernelRfl
namespace Go.Proofs.Ythljopjpjjaadaa
/- THE CELL 'sum', in the pinned program and in every row, IS THE sha256 OF THE DUMP (.gsa) THAT YthljopjpjjaadaaProg.lean LOADS. Nothing in Lean hashes anything: it is a label: what it is worth is what the hold of that sum in a sandbox is worth. -/
noncomputable def Try.pinned : Pinned := { name := "ythljopjpjjaadaa", sum := "ccfa14c4c8dcf0fc2fd9c426bfd3da629c971c7ec5ba6825a3236a0c66805c55", checked := Try.checked }
namespace Rows
def none {H : Type} : Left H := { results := [], args := [] }

/-- 'fairkeep.RopeEach': WHATEVER THE INPUT: true; the input reads as it did. -/
def ropeEachSpec : ChangeSpec := { name := "ropeEach", fn := fun _ => fun
  | [d1, d2] => { results := [.lit (.bool true)], args := [d1, d2] }
  | _ => none }
def ropeEachRow : OpenClaim := { program := "ythljopjpjjaadaa", sum := "ccfa14c4c8dcf0fc2fd9c426bfd3da629c971c7ec5ba6825a3236a0c66805c55", func := "fairhand/fairkeep.RopeEach", spec := "ropeEach", unfollowed := true, recurses := true, apart := false }
def RopeEachSaid : Prop := ropeEachRow.holds Try.pinned (OpenSpec.ofChange ropeEachSpec)

/-- ITS FALSE NEIGHBOUR: 'it returns false'. Refute it at one input. -/
def ropeEachWrong : ChangeSpec := { name := "ropeEach", fn := fun _ => fun
  | [d1, d2] => { results := [.lit (.bool false)], args := [d1, d2] }
  | _ => none }
def RopeEachWrongFalsely : Prop := ropeEachRow.holds Try.pinned (OpenSpec.ofChange ropeEachWrong)

/-- 'fairkeep.RopeLow': WHATEVER THE INPUT: true; the input reads as it did. -/
def ropeLowSpec : ChangeSpec := { name := "ropeLow", fn := fun _ => fun
  | [d1, d2] => { results := [.lit (.bool true)], args := [d1, d2] }
  | _ => none }
def ropeLowRow : OpenClaim := { program := "ythljopjpjjaadaa", sum := "ccfa14c4c8dcf0fc2fd9c426bfd3da629c971c7ec5ba6825a3236a0c66805c55", func := "fairhand/fairkeep.RopeLow", spec := "ropeLow", recurses := true, apart := false }
def RopeLowSaid : Prop := ropeLowRow.holds Try.pinned (OpenSpec.ofChange ropeLowSpec)

/-- ITS FALSE NEIGHBOUR: 'it returns false'. Refute it at one input. -/
def ropeLowWrong : ChangeSpec := { name := "ropeLow", fn := fun _ => fun
  | [d1, d2] => { results := [.lit (.bool false)], args := [d1, d2] }
  | _ => none }
def RopeLowWrongFalsely : Prop := ropeLowRow.holds Try.pinned (OpenSpec.ofChange ropeLowWrong)

/-- 'fairkeep.RopeJoins': WHATEVER THE INPUT: true; the input reads as it did. -/
def ropeJoinsSpec : ChangeSpec := { name := "ropeJoins", fn := fun _ => fun
  | [d1, d2, d3] => { results := [.lit (.bool true)], args := [d1, d2, d3] }
  | _ => none }
def ropeJoinsRow : OpenClaim := { program := "ythljopjpjjaadaa", sum := "ccfa14c4c8dcf0fc2fd9c426bfd3da629c971c7ec5ba6825a3236a0c66805c55", func := "fairhand/fairkeep.RopeJoins", spec := "ropeJoins", unfollowed := true, recurses := true, apart := false }
def RopeJoinsSaid : Prop := ropeJoinsRow.holds Try.pinned (OpenSpec.ofChange ropeJoinsSpec)

/-- ITS FALSE NEIGHBOUR: 'it returns false'. Refute it at one input. -/
def ropeJoinsWrong : ChangeSpec := { name := "ropeJoins", fn := fun _ => fun
  | [d1, d2, d3] => { results := [.lit (.bool false)], args := [d1, d2, d3] }
  | _ => none }
def RopeJoinsWrongFalsely : Prop := ropeJoinsRow.holds Try.pinned (OpenSpec.ofChange ropeJoinsWrong)

/-- 'fairkeep.RopeSplits': WHATEVER THE INPUT: true; the input reads as it did. -/
def ropeSplitsSpec : ChangeSpec := { name := "ropeSplits", fn := fun _ => fun
  | [d1, d2] => { results := [.lit (.bool true)], args := [d1, d2] }
  | _ => none }
def ropeSplitsRow : OpenClaim := { program := "ythljopjpjjaadaa", sum := "ccfa14c4c8dcf0fc2fd9c426bfd3da629c971c7ec5ba6825a3236a0c66805c55", func := "fairhand/fairkeep.RopeSplits", spec := "ropeSplits", unfollowed := true, recurses := true, apart := false }
def RopeSplitsSaid : Prop := ropeSplitsRow.holds Try.pinned (OpenSpec.ofChange ropeSplitsSpec)

/-- ITS FALSE NEIGHBOUR: 'it returns false'. Refute it at one input. -/
def ropeSplitsWrong : ChangeSpec := { name := "ropeSplits", fn := fun _ => fun
  | [d1, d2] => { results := [.lit (.bool false)], args := [d1, d2] }
  | _ => none }
def RopeSplitsWrongFalsely : Prop := ropeSplitsRow.holds Try.pinned (OpenSpec.ofChange ropeSplitsWrong)

/-- 'fairkeep.RopeOld': WHATEVER THE INPUT: true; the input reads as it did. -/
def ropeOldSpec : ChangeSpec := { name := "ropeOld", fn := fun _ => fun
  | [d1, d2, d3, d4] => { results := [.lit (.bool true)], args := [d1, d2, d3, d4] }
  | _ => none }
def ropeOldRow : OpenClaim := { program := "ythljopjpjjaadaa", sum := "ccfa14c4c8dcf0fc2fd9c426bfd3da629c971c7ec5ba6825a3236a0c66805c55", func := "fairhand/fairkeep.RopeOld", spec := "ropeOld", unfollowed := true, recurses := true, apart := false }
def RopeOldSaid : Prop := ropeOldRow.holds Try.pinned (OpenSpec.ofChange ropeOldSpec)

/-- ITS FALSE NEIGHBOUR: 'it returns false'. Refute it at one input. -/
def ropeOldWrong : ChangeSpec := { name := "ropeOld", fn := fun _ => fun
  | [d1, d2, d3, d4] => { results := [.lit (.bool false)], args := [d1, d2, d3, d4] }
  | _ => none }
def RopeOldWrongFalsely : Prop := ropeOldRow.holds Try.pinned (OpenSpec.ofChange ropeOldWrong)

/- THE SECOND FORM. 'bulk': how many values and letters a reading holds, each counted each time it is reached (what is shared counts as often as it is met; a slice's spare places count too). A statement '..UptoSaid' is the law's where the arguments, and the package variables that the reading takes, are together of bulk at most 1048576: NARROWER than '..Said'. Prove '..Said' where nothing that the law and all that it calls make is longer than what came in: it says more and counts as full. Else prove '..UptoSaid'. A law counts once. -/
mutual
def uptoBulk {H : Type} : DataW H → Nat
  | .lit (.string bytes) => bytes.length + 1
  | .lit _ => 1
  | .nil => 1
  | .ptr d => uptoBulk d + 1
  | .slice elems spare => uptoBulkAll elems + uptoBulkAll spare + 1
  | .agg parts => uptoBulkAll parts + 1
  | .iface _ d => uptoBulk d + 1
  | .map entries => uptoBulkEntries entries + 1
  | .held _ => 1
def uptoBulkAll {H : Type} : List (DataW H) → Nat
  | [] => 0
  | d :: r => uptoBulk d + uptoBulkAll r
def uptoBulkEntries {H : Type} : List (Lit × DataW H) → Nat
  | [] => 0
  | x :: r => uptoBulkEntry x + uptoBulkEntries r
def uptoBulkEntry {H : Type} : Lit × DataW H → Nat
  | (.string bytes, d) => bytes.length + uptoBulk d + 1
  | (_, d) => uptoBulk d + 1
 end
def uptoSmall : (H : Type) → List (DataW H) → Bool := fun _ ds => decide (uptoBulkAll ds ≤ 1048576)
def OpenSpec.upto (s : _root_.Go.ChangeSpec) : _root_.Go.OpenSpec := { _root_.Go.OpenSpec.ofChange s with cond := some uptoSmall }

/-- 'fairkeep.RopeEach', WHERE WHAT IT READS IS OF BULK AT MOST 1048576: true; the input reads as it did. -/
def ropeEachUptoRow : OpenClaim := { program := "ythljopjpjjaadaa", sum := "ccfa14c4c8dcf0fc2fd9c426bfd3da629c971c7ec5ba6825a3236a0c66805c55", func := "fairhand/fairkeep.RopeEach", spec := "ropeEach", unfollowed := true, recurses := true, apart := false, narrowed := true }
def RopeEachUptoSaid : Prop := ropeEachUptoRow.holds Try.pinned (OpenSpec.upto ropeEachSpec)

/-- 'fairkeep.RopeLow', WHERE WHAT IT READS IS OF BULK AT MOST 1048576: true; the input reads as it did. -/
def ropeLowUptoRow : OpenClaim := { program := "ythljopjpjjaadaa", sum := "ccfa14c4c8dcf0fc2fd9c426bfd3da629c971c7ec5ba6825a3236a0c66805c55", func := "fairhand/fairkeep.RopeLow", spec := "ropeLow", recurses := true, apart := false, narrowed := true }
def RopeLowUptoSaid : Prop := ropeLowUptoRow.holds Try.pinned (OpenSpec.upto ropeLowSpec)

/-- 'fairkeep.RopeJoins', WHERE WHAT IT READS IS OF BULK AT MOST 1048576: true; the input reads as it did. -/
def ropeJoinsUptoRow : OpenClaim := { program := "ythljopjpjjaadaa", sum := "ccfa14c4c8dcf0fc2fd9c426bfd3da629c971c7ec5ba6825a3236a0c66805c55", func := "fairhand/fairkeep.RopeJoins", spec := "ropeJoins", unfollowed := true, recurses := true, apart := false, narrowed := true }
def RopeJoinsUptoSaid : Prop := ropeJoinsUptoRow.holds Try.pinned (OpenSpec.upto ropeJoinsSpec)

/-- 'fairkeep.RopeSplits', WHERE WHAT IT READS IS OF BULK AT MOST 1048576: true; the input reads as it did. -/
def ropeSplitsUptoRow : OpenClaim := { program := "ythljopjpjjaadaa", sum := "ccfa14c4c8dcf0fc2fd9c426bfd3da629c971c7ec5ba6825a3236a0c66805c55", func := "fairhand/fairkeep.RopeSplits", spec := "ropeSplits", unfollowed := true, recurses := true, apart := false, narrowed := true }
def RopeSplitsUptoSaid : Prop := ropeSplitsUptoRow.holds Try.pinned (OpenSpec.upto ropeSplitsSpec)

/-- 'fairkeep.RopeOld', WHERE WHAT IT READS IS OF BULK AT MOST 1048576: true; the input reads as it did. -/
def ropeOldUptoRow : OpenClaim := { program := "ythljopjpjjaadaa", sum := "ccfa14c4c8dcf0fc2fd9c426bfd3da629c971c7ec5ba6825a3236a0c66805c55", func := "fairhand/fairkeep.RopeOld", spec := "ropeOld", unfollowed := true, recurses := true, apart := false, narrowed := true }
def RopeOldUptoSaid : Prop := ropeOldUptoRow.holds Try.pinned (OpenSpec.upto ropeOldSpec)

end Rows
end Go.Proofs.Ythljopjpjjaadaa
