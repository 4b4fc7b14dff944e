/-
  No cell of these rows narrows 'for every input' (looked for: loops, veiled, ifaces, maps, wideKeys, modest, calm, conditions, laid).
  DERIVED. THE GIVEN ROWS OF THIS SEAT. 4 by the template 'for every input the law returns true; each argument reads behind the call as it read before'; 0 by the template 'total and deterministic' (their statements: YtgpagfbmbnlcpaaTotals.lean).
  GIVEN WITH THE SEED: the statements are not yours to turn. If you find one false, say at which input.
  Laid BY PROGRAM, IN A SANDBOX (cutbox-rows.mjs): the forced cells as the released guide's own fill.sh prints them over the translation d1102aea9e9b5c37… (all of the seat's roots in one cut). By AI agents, Wed Nov 11 2026. No macro, syntax, notation, axiom, sorry.
-/
import Derived.Test.YtgpagfbmbnlcpaaChecked
import GoSem.Claim
import GoSem.ClaimJoined
import GoSem.ClaimMapViews
import Derived.JoinedTies
import Derived.KernelRfl
namespace Go.Proofs.Ytgpagfbmbnlcpaa
/- THE CELL 'sum', in the pinned program and in every row, IS THE sha256 OF THE DUMP (.gsa) THAT YtgpagfbmbnlcpaaProg.lean LOADS. Nothing in Lean hashes anything: it is a label: what it is worth is what the hold of that sum in a sandbox is worth. -/
noncomputable def Try.pinned : Pinned := { name := "ytgpagfbmbnlcpaa", sum := "d1102aea9e9b5c379a28b2e7a64df3aa1abd8b49831b10af0edf9d7607b7f660", checked := Try.checked }
namespace Rows
def none {H : Type} : Left H := { results := [], args := [] }

/-- 'fairkeep.SeekBorders': WHATEVER THE INPUT: true; the input reads as it did. -/
def seekBordersSpec : ChangeSpec := { name := "seekBorders", fn := fun _ => fun
  | [d] => { results := [.lit (.bool true)], args := [d] }
  | _ => none }
def seekBordersRow : OpenClaim := { program := "ytgpagfbmbnlcpaa", sum := "d1102aea9e9b5c379a28b2e7a64df3aa1abd8b49831b10af0edf9d7607b7f660", func := "fairhand/fairkeep.SeekBorders", spec := "seekBorders", apart := false }
def SeekBordersSaid : Prop := seekBordersRow.holds Try.pinned (OpenSpec.ofChange seekBordersSpec)

/-- ITS FALSE NEIGHBOUR: 'it returns false'. Refute it at one input. -/
def seekBordersWrong : ChangeSpec := { name := "seekBorders", fn := fun _ => fun
  | [d] => { results := [.lit (.bool false)], args := [d] }
  | _ => none }
def SeekBordersWrongFalsely : Prop := seekBordersRow.holds Try.pinned (OpenSpec.ofChange seekBordersWrong)

/-- 'fairkeep.SeekPeriods': WHATEVER THE INPUT: true; the input reads as it did. -/
def seekPeriodsSpec : ChangeSpec := { name := "seekPeriods", fn := fun _ => fun
  | [d1, d2, d3] => { results := [.lit (.bool true)], args := [d1, d2, d3] }
  | _ => none }
def seekPeriodsRow : OpenClaim := { program := "ytgpagfbmbnlcpaa", sum := "d1102aea9e9b5c379a28b2e7a64df3aa1abd8b49831b10af0edf9d7607b7f660", func := "fairhand/fairkeep.SeekPeriods", spec := "seekPeriods", apart := false }
def SeekPeriodsSaid : Prop := seekPeriodsRow.holds Try.pinned (OpenSpec.ofChange seekPeriodsSpec)

/-- ITS FALSE NEIGHBOUR: 'it returns false'. Refute it at one input. -/
def seekPeriodsWrong : ChangeSpec := { name := "seekPeriods", fn := fun _ => fun
  | [d1, d2, d3] => { results := [.lit (.bool false)], args := [d1, d2, d3] }
  | _ => none }
def SeekPeriodsWrongFalsely : Prop := seekPeriodsRow.holds Try.pinned (OpenSpec.ofChange seekPeriodsWrong)

/-- 'fairkeep.SeekTurned': WHATEVER THE INPUT: true; the input reads as it did. -/
def seekTurnedSpec : ChangeSpec := { name := "seekTurned", fn := fun _ => fun
  | [d1, d2] => { results := [.lit (.bool true)], args := [d1, d2] }
  | _ => none }
def seekTurnedRow : OpenClaim := { program := "ytgpagfbmbnlcpaa", sum := "d1102aea9e9b5c379a28b2e7a64df3aa1abd8b49831b10af0edf9d7607b7f660", func := "fairhand/fairkeep.SeekTurned", spec := "seekTurned", unfollowed := true, recurses := true, apart := false }
def SeekTurnedSaid : Prop := seekTurnedRow.holds Try.pinned (OpenSpec.ofChange seekTurnedSpec)

/-- ITS FALSE NEIGHBOUR: 'it returns false'. Refute it at one input. -/
def seekTurnedWrong : ChangeSpec := { name := "seekTurned", fn := fun _ => fun
  | [d1, d2] => { results := [.lit (.bool false)], args := [d1, d2] }
  | _ => none }
def SeekTurnedWrongFalsely : Prop := seekTurnedRow.holds Try.pinned (OpenSpec.ofChange seekTurnedWrong)

/-- 'fairkeep.SeekJoins': WHATEVER THE INPUT: true; the input reads as it did. -/
def seekJoinsSpec : ChangeSpec := { name := "seekJoins", fn := fun _ => fun
  | [d1, d2, d3] => { results := [.lit (.bool true)], args := [d1, d2, d3] }
  | _ => none }
def seekJoinsRow : OpenClaim := { program := "ytgpagfbmbnlcpaa", sum := "d1102aea9e9b5c379a28b2e7a64df3aa1abd8b49831b10af0edf9d7607b7f660", func := "fairhand/fairkeep.SeekJoins", spec := "seekJoins", unfollowed := true, recurses := true, apart := false }
def SeekJoinsSaid : Prop := seekJoinsRow.holds Try.pinned (OpenSpec.ofChange seekJoinsSpec)

/-- ITS FALSE NEIGHBOUR: 'it returns false'. Refute it at one input. -/
def seekJoinsWrong : ChangeSpec := { name := "seekJoins", fn := fun _ => fun
  | [d1, d2, d3] => { results := [.lit (.bool false)], args := [d1, d2, d3] }
  | _ => none }
def SeekJoinsWrongFalsely : Prop := seekJoinsRow.holds Try.pinned (OpenSpec.ofChange seekJoinsWrong)

/- THE SECOND FORM. 'bulk': how many values and letters a reading holds, each counted each time it is reached (what is shared counts as often as it is met; a slice's spare places count too). A statement '..UptoSaid' is the law's where the arguments, and the package variables that the reading takes, are together of bulk at most 1048576: NARROWER than '..Said'. Prove '..Said' where nothing that the law and all that it calls make is longer than what came in: it says more and counts as full. Else prove '..UptoSaid'. A law counts once. -/
mutual
def uptoBulk {H : Type} : DataW H → Nat
  | .lit (.string bytes) => bytes.length + 1
  | .lit _ => 1
  | .nil => 1
  | .ptr d => uptoBulk d + 1
  | .slice elems spare => uptoBulkAll elems + uptoBulkAll spare + 1
  | .agg parts => uptoBulkAll parts + 1
  | .iface _ d => uptoBulk d + 1
  | .map entries => uptoBulkEntries entries + 1
  | .held _ => 1
def uptoBulkAll {H : Type} : List (DataW H) → Nat
  | [] => 0
  | d :: r => uptoBulk d + uptoBulkAll r
def uptoBulkEntries {H : Type} : List (Lit × DataW H) → Nat
  | [] => 0
  | x :: r => uptoBulkEntry x + uptoBulkEntries r
def uptoBulkEntry {H : Type} : Lit × DataW H → Nat
  | (.string bytes, d) => bytes.length + uptoBulk d + 1
  | (_, d) => uptoBulk d + 1
 end
def uptoSmall : (H : Type) → List (DataW H) → Bool := fun _ ds => decide (uptoBulkAll ds ≤ 1048576)
def OpenSpec.upto (s : _root_.Go.ChangeSpec) : _root_.Go.OpenSpec := { _root_.Go.OpenSpec.ofChange s with cond := some uptoSmall }

/-- 'fairkeep.SeekBorders', WHERE WHAT IT READS IS OF BULK AT MOST 1048576: true; the input reads as it did. -/
def seekBordersUptoRow : OpenClaim := { program := "ytgpagfbmbnlcpaa", sum := "d1102aea9e9b5c379a28b2e7a64df3aa1abd8b49831b10af0edf9d7607b7f660", func := "fairhand/fairkeep.SeekBorders", spec := "seekBorders", apart := false, narrowed := true }
def SeekBordersUptoSaid : Prop := seekBordersUptoRow.holds Try.pinned (OpenSpec.upto seekBordersSpec)

/-- 'fairkeep.SeekPeriods', WHERE WHAT IT READS IS OF BULK AT MOST 1048576: true; the input reads as it did. -/
def seekPeriodsUptoRow : OpenClaim := { program := "ytgpagfbmbnlcpaa", sum := "d1102aea9e9b5c379a28b2e7a64df3aa1abd8b49831b10af0edf9d7607b7f660", func := "fairhand/fairkeep.SeekPeriods", spec := "seekPeriods", apart := false, narrowed := true }
def SeekPeriodsUptoSaid : Prop := seekPeriodsUptoRow.holds Try.pinned (OpenSpec.upto seekPeriodsSpec)

/-- 'fairkeep.SeekTurned', WHERE WHAT IT READS IS OF BULK AT MOST 1048576: true; the input reads as it did. -/
def seekTurnedUptoRow : OpenClaim := { program := "ytgpagfbmbnlcpaa", sum := "d1102aea9e9b5c379a28b2e7a64df3aa1abd8b49831b10af0edf9d7607b7f660", func := "fairhand/fairkeep.SeekTurned", spec := "seekTurned", unfollowed := true, recurses := true, apart := false, narrowed := true }
def SeekTurnedUptoSaid : Prop := seekTurnedUptoRow.holds Try.pinned (OpenSpec.upto seekTurnedSpec)

/-- 'fairkeep.SeekJoins', WHERE WHAT IT READS IS OF BULK AT MOST 1048576: true; the input reads as it did. -/
def seekJoinsUptoRow : OpenClaim := { program := "ytgpagfbmbnlcpaa", sum := "d1102aea9e9b5c379a28b2e7a64df3aa1abd8b49831b10af0edf9d7607b7f660", func := "fairhand/fairkeep.SeekJoins", spec := "seekJoins", unfollowed := true, recurses := true, apart := false, narrowed := true }
def SeekJoinsUptoSaid : Prop := seekJoinsUptoRow.holds Try.pinned (OpenSpec.upto seekJoinsSpec)

end Rows
end Go.Proofs.Ytgpagfbmbnlcpaa
