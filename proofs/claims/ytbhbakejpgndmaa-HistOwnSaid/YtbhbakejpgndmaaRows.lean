/-
  No cell of these rows narrows 'for every input' (looked for: loops, veiled, ifaces, maps, wideKeys, modest, calm, conditions, laid).
  DERIVED. THE GIVEN ROWS OF THIS SEAT. 8 by the template 'for every input the law returns true; each argument reads behind the call as it read before'; 0 by the template 'total and deterministic' (their statements: YtbhbakejpgndmaaTotals.lean).
  GIVEN WITH THE SEED: the statements are not yours to turn. If you find one false, say at which input.
  Laid BY PROGRAM, IN A SANDBOX (cutbox-rows.mjs): the forced cells as the released guide's own fill.sh prints them over the translation a02ec795f373db99… (all of the seat's roots in one cut). By AI agents, Wed Nov 11 2026. No macro, syntax, notation, axiom, sorry.
-/
import Derived.Test.YtbhbakejpgndmaaChecked
import GoSem.Claim
import GoSem.ClaimJoined
import GoSem.ClaimMapViews
import Derived.JoinedTies
import Derived.KernelRfl
namespace Go.Proofs.Ytbhbakejpgndmaa
/- THE CELL 'sum', in the pinned program and in every row, IS THE sha256 OF THE DUMP (.gsa) THAT YtbhbakejpgndmaaProg.lean LOADS. Nothing in Lean hashes anything: it is a label: what it is worth is what the hold of that sum in a sandbox is worth. -/
noncomputable def Try.pinned : Pinned := { name := "ytbhbakejpgndmaa", sum := "a02ec795f373db99ea5e99cc984992eed05b89af63a2334ec030f1342f135400", checked := Try.checked }
namespace Rows
def none {H : Type} : Left H := { results := [], args := [] }

/-- 'fairkeep.UndoBack': WHATEVER THE INPUT: true; the input reads as it did. -/
def undoBackSpec : ChangeSpec := { name := "undoBack", fn := fun _ => fun
  | [d1, d2, d3] => { results := [.lit (.bool true)], args := [d1, d2, d3] }
  | _ => none }
def undoBackRow : OpenClaim := { program := "ytbhbakejpgndmaa", sum := "a02ec795f373db99ea5e99cc984992eed05b89af63a2334ec030f1342f135400", func := "fairhand/fairkeep.UndoBack", spec := "undoBack", apart := false }
def UndoBackSaid : Prop := undoBackRow.holds Try.pinned (OpenSpec.ofChange undoBackSpec)

/-- ITS FALSE NEIGHBOUR: 'it returns false'. Refute it at one input. -/
def undoBackWrong : ChangeSpec := { name := "undoBack", fn := fun _ => fun
  | [d1, d2, d3] => { results := [.lit (.bool false)], args := [d1, d2, d3] }
  | _ => none }
def UndoBackWrongFalsely : Prop := undoBackRow.holds Try.pinned (OpenSpec.ofChange undoBackWrong)

/-- 'fairkeep.RingLast': WHATEVER THE INPUT: true; the input reads as it did. -/
def ringLastSpec : ChangeSpec := { name := "ringLast", fn := fun _ => fun
  | [d1, d2] => { results := [.lit (.bool true)], args := [d1, d2] }
  | _ => none }
def ringLastRow : OpenClaim := { program := "ytbhbakejpgndmaa", sum := "a02ec795f373db99ea5e99cc984992eed05b89af63a2334ec030f1342f135400", func := "fairhand/fairkeep.RingLast", spec := "ringLast", apart := false }
def RingLastSaid : Prop := ringLastRow.holds Try.pinned (OpenSpec.ofChange ringLastSpec)

/-- ITS FALSE NEIGHBOUR: 'it returns false'. Refute it at one input. -/
def ringLastWrong : ChangeSpec := { name := "ringLast", fn := fun _ => fun
  | [d1, d2] => { results := [.lit (.bool false)], args := [d1, d2] }
  | _ => none }
def RingLastWrongFalsely : Prop := ringLastRow.holds Try.pinned (OpenSpec.ofChange ringLastWrong)

/-- 'fairkeep.RegOwn': WHATEVER THE INPUT: true; the input reads as it did. -/
def regOwnSpec : ChangeSpec := { name := "regOwn", fn := fun _ => fun
  | [d1, d2, d3] => { results := [.lit (.bool true)], args := [d1, d2, d3] }
  | _ => none }
def regOwnRow : OpenClaim := { program := "ytbhbakejpgndmaa", sum := "a02ec795f373db99ea5e99cc984992eed05b89af63a2334ec030f1342f135400", func := "fairhand/fairkeep.RegOwn", spec := "regOwn", apart := false }
def RegOwnSaid : Prop := regOwnRow.holds Try.pinned (OpenSpec.ofChange regOwnSpec)

/-- ITS FALSE NEIGHBOUR: 'it returns false'. Refute it at one input. -/
def regOwnWrong : ChangeSpec := { name := "regOwn", fn := fun _ => fun
  | [d1, d2, d3] => { results := [.lit (.bool false)], args := [d1, d2, d3] }
  | _ => none }
def RegOwnWrongFalsely : Prop := regOwnRow.holds Try.pinned (OpenSpec.ofChange regOwnWrong)

/-- 'fairkeep.HistBack': WHATEVER THE INPUT: true; the input reads as it did. -/
def histBackSpec : ChangeSpec := { name := "histBack", fn := fun _ => fun
  | [d1, d2, d3] => { results := [.lit (.bool true)], args := [d1, d2, d3] }
  | _ => none }
def histBackRow : OpenClaim := { program := "ytbhbakejpgndmaa", sum := "a02ec795f373db99ea5e99cc984992eed05b89af63a2334ec030f1342f135400", func := "fairhand/fairkeep.HistBack", spec := "histBack", apart := false }
def HistBackSaid : Prop := histBackRow.holds Try.pinned (OpenSpec.ofChange histBackSpec)

/-- ITS FALSE NEIGHBOUR: 'it returns false'. Refute it at one input. -/
def histBackWrong : ChangeSpec := { name := "histBack", fn := fun _ => fun
  | [d1, d2, d3] => { results := [.lit (.bool false)], args := [d1, d2, d3] }
  | _ => none }
def HistBackWrongFalsely : Prop := histBackRow.holds Try.pinned (OpenSpec.ofChange histBackWrong)

/-- 'fairkeep.RegBack': WHATEVER THE INPUT: true; the input reads as it did. -/
def regBackSpec : ChangeSpec := { name := "regBack", fn := fun _ => fun
  | [d1, d2, d3, d4, d5] => { results := [.lit (.bool true)], args := [d1, d2, d3, d4, d5] }
  | _ => none }
def regBackRow : OpenClaim := { program := "ytbhbakejpgndmaa", sum := "a02ec795f373db99ea5e99cc984992eed05b89af63a2334ec030f1342f135400", func := "fairhand/fairkeep.RegBack", spec := "regBack", apart := false }
def RegBackSaid : Prop := regBackRow.holds Try.pinned (OpenSpec.ofChange regBackSpec)

/-- ITS FALSE NEIGHBOUR: 'it returns false'. Refute it at one input. -/
def regBackWrong : ChangeSpec := { name := "regBack", fn := fun _ => fun
  | [d1, d2, d3, d4, d5] => { results := [.lit (.bool false)], args := [d1, d2, d3, d4, d5] }
  | _ => none }
def RegBackWrongFalsely : Prop := regBackRow.holds Try.pinned (OpenSpec.ofChange regBackWrong)

/-- 'fairkeep.HistLast': WHATEVER THE INPUT: true; the input reads as it did. -/
def histLastSpec : ChangeSpec := { name := "histLast", fn := fun _ => fun
  | [d1, d2, d3] => { results := [.lit (.bool true)], args := [d1, d2, d3] }
  | _ => none }
def histLastRow : OpenClaim := { program := "ytbhbakejpgndmaa", sum := "a02ec795f373db99ea5e99cc984992eed05b89af63a2334ec030f1342f135400", func := "fairhand/fairkeep.HistLast", spec := "histLast", unfollowed := true, recurses := true, apart := false }
def HistLastSaid : Prop := histLastRow.holds Try.pinned (OpenSpec.ofChange histLastSpec)

/-- ITS FALSE NEIGHBOUR: 'it returns false'. Refute it at one input. -/
def histLastWrong : ChangeSpec := { name := "histLast", fn := fun _ => fun
  | [d1, d2, d3] => { results := [.lit (.bool false)], args := [d1, d2, d3] }
  | _ => none }
def HistLastWrongFalsely : Prop := histLastRow.holds Try.pinned (OpenSpec.ofChange histLastWrong)

/-- 'fairkeep.HistFits': WHATEVER THE INPUT: true; the input reads as it did. -/
def histFitsSpec : ChangeSpec := { name := "histFits", fn := fun _ => fun
  | [d1, d2, d3, d4] => { results := [.lit (.bool true)], args := [d1, d2, d3, d4] }
  | _ => none }
def histFitsRow : OpenClaim := { program := "ytbhbakejpgndmaa", sum := "a02ec795f373db99ea5e99cc984992eed05b89af63a2334ec030f1342f135400", func := "fairhand/fairkeep.HistFits", spec := "histFits", unfollowed := true, recurses := true, apart := false }
def HistFitsSaid : Prop := histFitsRow.holds Try.pinned (OpenSpec.ofChange histFitsSpec)

/-- ITS FALSE NEIGHBOUR: 'it returns false'. Refute it at one input. -/
def histFitsWrong : ChangeSpec := { name := "histFits", fn := fun _ => fun
  | [d1, d2, d3, d4] => { results := [.lit (.bool false)], args := [d1, d2, d3, d4] }
  | _ => none }
def HistFitsWrongFalsely : Prop := histFitsRow.holds Try.pinned (OpenSpec.ofChange histFitsWrong)

/-- 'fairkeep.HistOwn': WHATEVER THE INPUT: true; the input reads as it did. -/
def histOwnSpec : ChangeSpec := { name := "histOwn", fn := fun _ => fun
  | [d1, d2, d3] => { results := [.lit (.bool true)], args := [d1, d2, d3] }
  | _ => none }
def histOwnRow : OpenClaim := { program := "ytbhbakejpgndmaa", sum := "a02ec795f373db99ea5e99cc984992eed05b89af63a2334ec030f1342f135400", func := "fairhand/fairkeep.HistOwn", spec := "histOwn", unfollowed := true, recurses := true, apart := false }
def HistOwnSaid : Prop := histOwnRow.holds Try.pinned (OpenSpec.ofChange histOwnSpec)

/-- ITS FALSE NEIGHBOUR: 'it returns false'. Refute it at one input. -/
def histOwnWrong : ChangeSpec := { name := "histOwn", fn := fun _ => fun
  | [d1, d2, d3] => { results := [.lit (.bool false)], args := [d1, d2, d3] }
  | _ => none }
def HistOwnWrongFalsely : Prop := histOwnRow.holds Try.pinned (OpenSpec.ofChange histOwnWrong)

/- THE SECOND FORM. 'bulk': how many values and letters a reading holds, each counted each time it is reached (what is shared counts as often as it is met; a slice's spare places count too). A statement '..UptoSaid' is the law's where the arguments, and the package variables that the reading takes, are together of bulk at most 1048576: NARROWER than '..Said'. Prove '..Said' where nothing that the law and all that it calls make is longer than what came in: it says more and counts as full. Else prove '..UptoSaid'. A law counts once. -/
mutual
def uptoBulk {H : Type} : DataW H → Nat
  | .lit (.string bytes) => bytes.length + 1
  | .lit _ => 1
  | .nil => 1
  | .ptr d => uptoBulk d + 1
  | .slice elems spare => uptoBulkAll elems + uptoBulkAll spare + 1
  | .agg parts => uptoBulkAll parts + 1
  | .iface _ d => uptoBulk d + 1
  | .map entries => uptoBulkEntries entries + 1
  | .held _ => 1
def uptoBulkAll {H : Type} : List (DataW H) → Nat
  | [] => 0
  | d :: r => uptoBulk d + uptoBulkAll r
def uptoBulkEntries {H : Type} : List (Lit × DataW H) → Nat
  | [] => 0
  | x :: r => uptoBulkEntry x + uptoBulkEntries r
def uptoBulkEntry {H : Type} : Lit × DataW H → Nat
  | (.string bytes, d) => bytes.length + uptoBulk d + 1
  | (_, d) => uptoBulk d + 1
 end
def uptoSmall : (H : Type) → List (DataW H) → Bool := fun _ ds => decide (uptoBulkAll ds ≤ 1048576)
def OpenSpec.upto (s : _root_.Go.ChangeSpec) : _root_.Go.OpenSpec := { _root_.Go.OpenSpec.ofChange s with cond := some uptoSmall }

/-- 'fairkeep.UndoBack', WHERE WHAT IT READS IS OF BULK AT MOST 1048576: true; the input reads as it did. -/
def undoBackUptoRow : OpenClaim := { program := "ytbhbakejpgndmaa", sum := "a02ec795f373db99ea5e99cc984992eed05b89af63a2334ec030f1342f135400", func := "fairhand/fairkeep.UndoBack", spec := "undoBack", apart := false, narrowed := true }
def UndoBackUptoSaid : Prop := undoBackUptoRow.holds Try.pinned (OpenSpec.upto undoBackSpec)

/-- 'fairkeep.RingLast', WHERE WHAT IT READS IS OF BULK AT MOST 1048576: true; the input reads as it did. -/
def ringLastUptoRow : OpenClaim := { program := "ytbhbakejpgndmaa", sum := "a02ec795f373db99ea5e99cc984992eed05b89af63a2334ec030f1342f135400", func := "fairhand/fairkeep.RingLast", spec := "ringLast", apart := false, narrowed := true }
def RingLastUptoSaid : Prop := ringLastUptoRow.holds Try.pinned (OpenSpec.upto ringLastSpec)

/-- 'fairkeep.RegOwn', WHERE WHAT IT READS IS OF BULK AT MOST 1048576: true; the input reads as it did. -/
def regOwnUptoRow : OpenClaim := { program := "ytbhbakejpgndmaa", sum := "a02ec795f373db99ea5e99cc984992eed05b89af63a2334ec030f1342f135400", func := "fairhand/fairkeep.RegOwn", spec := "regOwn", apart := false, narrowed := true }
def RegOwnUptoSaid : Prop := regOwnUptoRow.holds Try.pinned (OpenSpec.upto regOwnSpec)

/-- 'fairkeep.HistBack', WHERE WHAT IT READS IS OF BULK AT MOST 1048576: true; the input reads as it did. -/
def histBackUptoRow : OpenClaim := { program := "ytbhbakejpgndmaa", sum := "a02ec795f373db99ea5e99cc984992eed05b89af63a2334ec030f1342f135400", func := "fairhand/fairkeep.HistBack", spec := "histBack", apart := false, narrowed := true }
def HistBackUptoSaid : Prop := histBackUptoRow.holds Try.pinned (OpenSpec.upto histBackSpec)

/-- 'fairkeep.RegBack', WHERE WHAT IT READS IS OF BULK AT MOST 1048576: true; the input reads as it did. -/
def regBackUptoRow : OpenClaim := { program := "ytbhbakejpgndmaa", sum := "a02ec795f373db99ea5e99cc984992eed05b89af63a2334ec030f1342f135400", func := "fairhand/fairkeep.RegBack", spec := "regBack", apart := false, narrowed := true }
def RegBackUptoSaid : Prop := regBackUptoRow.holds Try.pinned (OpenSpec.upto regBackSpec)

/-- 'fairkeep.HistLast', WHERE WHAT IT READS IS OF BULK AT MOST 1048576: true; the input reads as it did. -/
def histLastUptoRow : OpenClaim := { program := "ytbhbakejpgndmaa", sum := "a02ec795f373db99ea5e99cc984992eed05b89af63a2334ec030f1342f135400", func := "fairhand/fairkeep.HistLast", spec := "histLast", unfollowed := true, recurses := true, apart := false, narrowed := true }
def HistLastUptoSaid : Prop := histLastUptoRow.holds Try.pinned (OpenSpec.upto histLastSpec)

/-- 'fairkeep.HistFits', WHERE WHAT IT READS IS OF BULK AT MOST 1048576: true; the input reads as it did. -/
def histFitsUptoRow : OpenClaim := { program := "ytbhbakejpgndmaa", sum := "a02ec795f373db99ea5e99cc984992eed05b89af63a2334ec030f1342f135400", func := "fairhand/fairkeep.HistFits", spec := "histFits", unfollowed := true, recurses := true, apart := false, narrowed := true }
def HistFitsUptoSaid : Prop := histFitsUptoRow.holds Try.pinned (OpenSpec.upto histFitsSpec)

/-- 'fairkeep.HistOwn', WHERE WHAT IT READS IS OF BULK AT MOST 1048576: true; the input reads as it did. -/
def histOwnUptoRow : OpenClaim := { program := "ytbhbakejpgndmaa", sum := "a02ec795f373db99ea5e99cc984992eed05b89af63a2334ec030f1342f135400", func := "fairhand/fairkeep.HistOwn", spec := "histOwn", unfollowed := true, recurses := true, apart := false, narrowed := true }
def HistOwnUptoSaid : Prop := histOwnUptoRow.holds Try.pinned (OpenSpec.upto histOwnSpec)

end Rows
end Go.Proofs.Ytbhbakejpgndmaa
