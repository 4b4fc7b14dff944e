/-
  No cell of these rows narrows 'for every input' (looked for: loops, veiled, ifaces, maps, wideKeys, modest, calm, conditions, laid).
  DERIVED. THE GIVEN ROWS OF THIS SEAT. 6 by the template 'for every input the law returns true; each argument reads behind the call as it read before'; 0 by the template 'total and deterministic' (their statements: YtkaefdmhlmlhbaaGreatTotals.lean).
  GIVEN WITH THE SEED: the statements are not yours to turn. If you find one false, say at which input.
  Laid BY PROGRAM, IN A SANDBOX (cutbox-rows.mjs): the forced cells as the released guide's own fill.sh prints them over the translation c1f06ec5e641bc70… (all of the seat's roots in one cut). By AI agents, Wed Nov 11 2026. No macro, syntax, notation, axiom, sorry.
-/
import Derived.Test.YtkaefdmhlmlhbaaGreatChecked
import GoSem.Claim
import GoSem.ClaimJoined
import GoSem.ClaimMapViews
import Derived.JoinedTies
import Derived.KernelRfl
namespace Go.Proofs.YtkaefdmhlmlhbaaGreat
/- THE CELL 'sum', in the pinned program and in every row, IS THE sha256 OF THE DUMP (.gsa) THAT YtkaefdmhlmlhbaaGreatProg.lean LOADS. Nothing in Lean hashes anything: it is a label: what it is worth is what the hold of that sum in a sandbox is worth. -/
noncomputable def Tryz.pinned : Pinned := { name := "ytkaefdmhlmlhbaagreat", sum := "c1f06ec5e641bc70835370335b2cc667f7ce429f409d70402fe5f43715f21166", checked := Tryz.checked }
namespace Rows
def none {H : Type} : Left H := { results := [], args := [] }

/-- 'fairtop.TopCuts': WHATEVER THE INPUT: true; the input reads as it did. -/
def topCutsSpec : ChangeSpec := { name := "topCuts", fn := fun _ => fun
  | [d1, d2, d3, d4, d5] => { results := [.lit (.bool true)], args := [d1, d2, d3, d4, d5] }
  | _ => none }
def topCutsRow : OpenClaim := { program := "ytkaefdmhlmlhbaagreat", sum := "c1f06ec5e641bc70835370335b2cc667f7ce429f409d70402fe5f43715f21166", func := "fairhand/fairtop.TopCuts", spec := "topCuts", unfollowed := true, recurses := true, apart := false }
def TopCutsSaid : Prop := topCutsRow.holds Tryz.pinned (OpenSpec.ofChange topCutsSpec)

/-- ITS FALSE NEIGHBOUR: 'it returns false'. Refute it at one input. -/
def topCutsWrong : ChangeSpec := { name := "topCuts", fn := fun _ => fun
  | [d1, d2, d3, d4, d5] => { results := [.lit (.bool false)], args := [d1, d2, d3, d4, d5] }
  | _ => none }
def TopCutsWrongFalsely : Prop := topCutsRow.holds Tryz.pinned (OpenSpec.ofChange topCutsWrong)

/-- 'fairtop.TopHistory': WHATEVER THE INPUT: true; the input reads as it did. -/
def topHistorySpec : ChangeSpec := { name := "topHistory", fn := fun _ => fun
  | [d1, d2, d3] => { results := [.lit (.bool true)], args := [d1, d2, d3] }
  | _ => none }
def topHistoryRow : OpenClaim := { program := "ytkaefdmhlmlhbaagreat", sum := "c1f06ec5e641bc70835370335b2cc667f7ce429f409d70402fe5f43715f21166", func := "fairhand/fairtop.TopHistory", spec := "topHistory", unfollowed := true, recurses := true, apart := false }
def TopHistorySaid : Prop := topHistoryRow.holds Tryz.pinned (OpenSpec.ofChange topHistorySpec)

/-- ITS FALSE NEIGHBOUR: 'it returns false'. Refute it at one input. -/
def topHistoryWrong : ChangeSpec := { name := "topHistory", fn := fun _ => fun
  | [d1, d2, d3] => { results := [.lit (.bool false)], args := [d1, d2, d3] }
  | _ => none }
def TopHistoryWrongFalsely : Prop := topHistoryRow.holds Tryz.pinned (OpenSpec.ofChange topHistoryWrong)

/-- 'fairtop.TopBell': WHATEVER THE INPUT: true; the input reads as it did. -/
def topBellSpec : ChangeSpec := { name := "topBell", fn := fun _ => fun
  | [d1, d2, d3, d4] => { results := [.lit (.bool true)], args := [d1, d2, d3, d4] }
  | _ => none }
def topBellRow : OpenClaim := { program := "ytkaefdmhlmlhbaagreat", sum := "c1f06ec5e641bc70835370335b2cc667f7ce429f409d70402fe5f43715f21166", func := "fairhand/fairtop.TopBell", spec := "topBell", unfollowed := true, recurses := true, apart := false }
def TopBellSaid : Prop := topBellRow.holds Tryz.pinned (OpenSpec.ofChange topBellSpec)

/-- ITS FALSE NEIGHBOUR: 'it returns false'. Refute it at one input. -/
def topBellWrong : ChangeSpec := { name := "topBell", fn := fun _ => fun
  | [d1, d2, d3, d4] => { results := [.lit (.bool false)], args := [d1, d2, d3, d4] }
  | _ => none }
def TopBellWrongFalsely : Prop := topBellRow.holds Tryz.pinned (OpenSpec.ofChange topBellWrong)

/-- 'fairtop.TopDots': WHATEVER THE INPUT: true; the input reads as it did. -/
def topDotsSpec : ChangeSpec := { name := "topDots", fn := fun _ => fun
  | [d1, d2, d3, d4, d5] => { results := [.lit (.bool true)], args := [d1, d2, d3, d4, d5] }
  | _ => none }
def topDotsRow : OpenClaim := { program := "ytkaefdmhlmlhbaagreat", sum := "c1f06ec5e641bc70835370335b2cc667f7ce429f409d70402fe5f43715f21166", func := "fairhand/fairtop.TopDots", spec := "topDots", unfollowed := true, recurses := true, apart := false }
def TopDotsSaid : Prop := topDotsRow.holds Tryz.pinned (OpenSpec.ofChange topDotsSpec)

/-- ITS FALSE NEIGHBOUR: 'it returns false'. Refute it at one input. -/
def topDotsWrong : ChangeSpec := { name := "topDots", fn := fun _ => fun
  | [d1, d2, d3, d4, d5] => { results := [.lit (.bool false)], args := [d1, d2, d3, d4, d5] }
  | _ => none }
def TopDotsWrongFalsely : Prop := topDotsRow.holds Tryz.pinned (OpenSpec.ofChange topDotsWrong)

/-- 'fairtop.TopFirst': WHATEVER THE INPUT: true; the input reads as it did. -/
def topFirstSpec : ChangeSpec := { name := "topFirst", fn := fun _ => fun
  | [d1, d2, d3, d4] => { results := [.lit (.bool true)], args := [d1, d2, d3, d4] }
  | _ => none }
def topFirstRow : OpenClaim := { program := "ytkaefdmhlmlhbaagreat", sum := "c1f06ec5e641bc70835370335b2cc667f7ce429f409d70402fe5f43715f21166", func := "fairhand/fairtop.TopFirst", spec := "topFirst", unfollowed := true, recurses := true, apart := false }
def TopFirstSaid : Prop := topFirstRow.holds Tryz.pinned (OpenSpec.ofChange topFirstSpec)

/-- ITS FALSE NEIGHBOUR: 'it returns false'. Refute it at one input. -/
def topFirstWrong : ChangeSpec := { name := "topFirst", fn := fun _ => fun
  | [d1, d2, d3, d4] => { results := [.lit (.bool false)], args := [d1, d2, d3, d4] }
  | _ => none }
def TopFirstWrongFalsely : Prop := topFirstRow.holds Tryz.pinned (OpenSpec.ofChange topFirstWrong)

/-- 'fairtop.TopEdit': WHATEVER THE INPUT: true; the input reads as it did. -/
def topEditSpec : ChangeSpec := { name := "topEdit", fn := fun _ => fun
  | [d1, d2, d3] => { results := [.lit (.bool true)], args := [d1, d2, d3] }
  | _ => none }
def topEditRow : OpenClaim := { program := "ytkaefdmhlmlhbaagreat", sum := "c1f06ec5e641bc70835370335b2cc667f7ce429f409d70402fe5f43715f21166", func := "fairhand/fairtop.TopEdit", spec := "topEdit", unfollowed := true, recurses := true, apart := false }
def TopEditSaid : Prop := topEditRow.holds Tryz.pinned (OpenSpec.ofChange topEditSpec)

/-- ITS FALSE NEIGHBOUR: 'it returns false'. Refute it at one input. -/
def topEditWrong : ChangeSpec := { name := "topEdit", fn := fun _ => fun
  | [d1, d2, d3] => { results := [.lit (.bool false)], args := [d1, d2, d3] }
  | _ => none }
def TopEditWrongFalsely : Prop := topEditRow.holds Tryz.pinned (OpenSpec.ofChange topEditWrong)

/- THE SECOND FORM. 'bulk': how many values and letters a reading holds, each counted each time it is reached (what is shared counts as often as it is met; a slice's spare places count too). A statement '..UptoSaid' is the law's where the arguments, and the package variables that the reading takes, are together of bulk at most 1048576: NARROWER than '..Said'. Prove '..Said' where nothing that the law and all that it calls make is longer than what came in: it says more and counts as full. Else prove '..UptoSaid'. A law counts once. -/
mutual
def uptoBulk {H : Type} : DataW H → Nat
  | .lit (.string bytes) => bytes.length + 1
  | .lit _ => 1
  | .nil => 1
  | .ptr d => uptoBulk d + 1
  | .slice elems spare => uptoBulkAll elems + uptoBulkAll spare + 1
  | .agg parts => uptoBulkAll parts + 1
  | .iface _ d => uptoBulk d + 1
  | .map entries => uptoBulkEntries entries + 1
  | .held _ => 1
def uptoBulkAll {H : Type} : List (DataW H) → Nat
  | [] => 0
  | d :: r => uptoBulk d + uptoBulkAll r
def uptoBulkEntries {H : Type} : List (Lit × DataW H) → Nat
  | [] => 0
  | x :: r => uptoBulkEntry x + uptoBulkEntries r
def uptoBulkEntry {H : Type} : Lit × DataW H → Nat
  | (.string bytes, d) => bytes.length + uptoBulk d + 1
  | (_, d) => uptoBulk d + 1
 end
def uptoSmall : (H : Type) → List (DataW H) → Bool := fun _ ds => decide (uptoBulkAll ds ≤ 1048576)
def OpenSpec.upto (s : _root_.Go.ChangeSpec) : _root_.Go.OpenSpec := { _root_.Go.OpenSpec.ofChange s with cond := some uptoSmall }

/-- 'fairtop.TopCuts', WHERE WHAT IT READS IS OF BULK AT MOST 1048576: true; the input reads as it did. -/
def topCutsUptoRow : OpenClaim := { program := "ytkaefdmhlmlhbaagreat", sum := "c1f06ec5e641bc70835370335b2cc667f7ce429f409d70402fe5f43715f21166", func := "fairhand/fairtop.TopCuts", spec := "topCuts", unfollowed := true, recurses := true, apart := false, narrowed := true }
def TopCutsUptoSaid : Prop := topCutsUptoRow.holds Tryz.pinned (OpenSpec.upto topCutsSpec)

/-- 'fairtop.TopHistory', WHERE WHAT IT READS IS OF BULK AT MOST 1048576: true; the input reads as it did. -/
def topHistoryUptoRow : OpenClaim := { program := "ytkaefdmhlmlhbaagreat", sum := "c1f06ec5e641bc70835370335b2cc667f7ce429f409d70402fe5f43715f21166", func := "fairhand/fairtop.TopHistory", spec := "topHistory", unfollowed := true, recurses := true, apart := false, narrowed := true }
def TopHistoryUptoSaid : Prop := topHistoryUptoRow.holds Tryz.pinned (OpenSpec.upto topHistorySpec)

/-- 'fairtop.TopBell', WHERE WHAT IT READS IS OF BULK AT MOST 1048576: true; the input reads as it did. -/
def topBellUptoRow : OpenClaim := { program := "ytkaefdmhlmlhbaagreat", sum := "c1f06ec5e641bc70835370335b2cc667f7ce429f409d70402fe5f43715f21166", func := "fairhand/fairtop.TopBell", spec := "topBell", unfollowed := true, recurses := true, apart := false, narrowed := true }
def TopBellUptoSaid : Prop := topBellUptoRow.holds Tryz.pinned (OpenSpec.upto topBellSpec)

/-- 'fairtop.TopDots', WHERE WHAT IT READS IS OF BULK AT MOST 1048576: true; the input reads as it did. -/
def topDotsUptoRow : OpenClaim := { program := "ytkaefdmhlmlhbaagreat", sum := "c1f06ec5e641bc70835370335b2cc667f7ce429f409d70402fe5f43715f21166", func := "fairhand/fairtop.TopDots", spec := "topDots", unfollowed := true, recurses := true, apart := false, narrowed := true }
def TopDotsUptoSaid : Prop := topDotsUptoRow.holds Tryz.pinned (OpenSpec.upto topDotsSpec)

/-- 'fairtop.TopFirst', WHERE WHAT IT READS IS OF BULK AT MOST 1048576: true; the input reads as it did. -/
def topFirstUptoRow : OpenClaim := { program := "ytkaefdmhlmlhbaagreat", sum := "c1f06ec5e641bc70835370335b2cc667f7ce429f409d70402fe5f43715f21166", func := "fairhand/fairtop.TopFirst", spec := "topFirst", unfollowed := true, recurses := true, apart := false, narrowed := true }
def TopFirstUptoSaid : Prop := topFirstUptoRow.holds Tryz.pinned (OpenSpec.upto topFirstSpec)

/-- 'fairtop.TopEdit', WHERE WHAT IT READS IS OF BULK AT MOST 1048576: true; the input reads as it did. -/
def topEditUptoRow : OpenClaim := { program := "ytkaefdmhlmlhbaagreat", sum := "c1f06ec5e641bc70835370335b2cc667f7ce429f409d70402fe5f43715f21166", func := "fairhand/fairtop.TopEdit", spec := "topEdit", unfollowed := true, recurses := true, apart := false, narrowed := true }
def TopEditUptoSaid : Prop := topEditUptoRow.holds Tryz.pinned (OpenSpec.upto topEditSpec)

end Rows
end Go.Proofs.YtkaefdmhlmlhbaaGreat
