/-
  No cell of these rows narrows 'for every input' (looked for: loops, veiled, ifaces, maps, wideKeys, modest, calm, conditions, laid).
  DERIVED. THE GIVEN ROWS OF THIS SEAT. 3 by the template 'for every input the law returns true; each argument reads behind the call as it read before'; 0 by the template 'total and deterministic' (their statements: YtpgffhmcangllaaTotals.lean).
  GIVEN WITH THE SEED: the statements are not yours to turn. If you find one false, say at which input.
  Laid BY PROGRAM, IN A SANDBOX (cutbox-rows.mjs): the forced cells as the released guide's own fill.sh prints them over the translation 647c69d79ffb8cb6… (all of the seat's roots in one cut). By AI agents, Wed Nov 11 2026. No macro, syntax, notation, axiom, sorry.
-/
import Derived.Test.YtpgffhmcangllaaChecked
import GoSem.Claim
import GoSem.ClaimJoined
import GoSem.ClaimMapViews
import Derived.JoinedTies
import Derived.KernelRfl
namespace Go.Proofs.Ytpgffhmcangllaa
/- THE CELL 'sum', in the pinned program and in every row, IS THE sha256 OF THE DUMP (.gsa) THAT YtpgffhmcangllaaProg.lean LOADS. Nothing in Lean hashes anything: it is a label: what it is worth is what the hold of that sum in a sandbox is worth. -/
noncomputable def Try.pinned : Pinned := { name := "ytpgffhmcangllaa", sum := "647c69d79ffb8cb6e3c06435881d36511869826d7ebf1e591cd0deaa4febc28b", checked := Try.checked }
namespace Rows
def none {H : Type} : Left H := { results := [], args := [] }

/-- 'fairkeep.KeysFront': WHATEVER THE INPUT: true; the input reads as it did. -/
def keysFrontSpec : ChangeSpec := { name := "keysFront", fn := fun _ => fun
  | [d1, d2] => { results := [.lit (.bool true)], args := [d1, d2] }
  | _ => none }
def keysFrontRow : OpenClaim := { program := "ytpgffhmcangllaa", sum := "647c69d79ffb8cb6e3c06435881d36511869826d7ebf1e591cd0deaa4febc28b", func := "fairhand/fairkeep.KeysFront", spec := "keysFront", apart := false }
def KeysFrontSaid : Prop := keysFrontRow.holds Try.pinned (OpenSpec.ofChange keysFrontSpec)

/-- ITS FALSE NEIGHBOUR: 'it returns false'. Refute it at one input. -/
def keysFrontWrong : ChangeSpec := { name := "keysFront", fn := fun _ => fun
  | [d1, d2] => { results := [.lit (.bool false)], args := [d1, d2] }
  | _ => none }
def KeysFrontWrongFalsely : Prop := keysFrontRow.holds Try.pinned (OpenSpec.ofChange keysFrontWrong)

/-- 'fairkeep.KeysBack': WHATEVER THE INPUT: true; the input reads as it did. -/
def keysBackSpec : ChangeSpec := { name := "keysBack", fn := fun _ => fun
  | [d1, d2] => { results := [.lit (.bool true)], args := [d1, d2] }
  | _ => none }
def keysBackRow : OpenClaim := { program := "ytpgffhmcangllaa", sum := "647c69d79ffb8cb6e3c06435881d36511869826d7ebf1e591cd0deaa4febc28b", func := "fairhand/fairkeep.KeysBack", spec := "keysBack", apart := false }
def KeysBackSaid : Prop := keysBackRow.holds Try.pinned (OpenSpec.ofChange keysBackSpec)

/-- ITS FALSE NEIGHBOUR: 'it returns false'. Refute it at one input. -/
def keysBackWrong : ChangeSpec := { name := "keysBack", fn := fun _ => fun
  | [d1, d2] => { results := [.lit (.bool false)], args := [d1, d2] }
  | _ => none }
def KeysBackWrongFalsely : Prop := keysBackRow.holds Try.pinned (OpenSpec.ofChange keysBackWrong)

/-- 'fairkeep.KeysCount': WHATEVER THE INPUT: true; the input reads as it did. -/
def keysCountSpec : ChangeSpec := { name := "keysCount", fn := fun _ => fun
  | [d1, d2] => { results := [.lit (.bool true)], args := [d1, d2] }
  | _ => none }
def keysCountRow : OpenClaim := { program := "ytpgffhmcangllaa", sum := "647c69d79ffb8cb6e3c06435881d36511869826d7ebf1e591cd0deaa4febc28b", func := "fairhand/fairkeep.KeysCount", spec := "keysCount", apart := false }
def KeysCountSaid : Prop := keysCountRow.holds Try.pinned (OpenSpec.ofChange keysCountSpec)

/-- ITS FALSE NEIGHBOUR: 'it returns false'. Refute it at one input. -/
def keysCountWrong : ChangeSpec := { name := "keysCount", fn := fun _ => fun
  | [d1, d2] => { results := [.lit (.bool false)], args := [d1, d2] }
  | _ => none }
def KeysCountWrongFalsely : Prop := keysCountRow.holds Try.pinned (OpenSpec.ofChange keysCountWrong)

/- THE SECOND FORM. 'bulk': how many values and letters a reading holds, each counted each time it is reached (what is shared counts as often as it is met; a slice's spare places count too). A statement '..UptoSaid' is the law's where the arguments, and the package variables that the reading takes, are together of bulk at most 1048576: NARROWER than '..Said'. Prove '..Said' where nothing that the law and all that it calls make is longer than what came in: it says more and counts as full. Else prove '..UptoSaid'. A law counts once. -/
mutual
def uptoBulk {H : Type} : DataW H → Nat
  | .lit (.string bytes) => bytes.length + 1
  | .lit _ => 1
  | .nil => 1
  | .ptr d => uptoBulk d + 1
  | .slice elems spare => uptoBulkAll elems + uptoBulkAll spare + 1
  | .agg parts => uptoBulkAll parts + 1
  | .iface _ d => uptoBulk d + 1
  | .map entries => uptoBulkEntries entries + 1
  | .held _ => 1
def uptoBulkAll {H : Type} : List (DataW H) → Nat
  | [] => 0
  | d :: r => uptoBulk d + uptoBulkAll r
def uptoBulkEntries {H : Type} : List (Lit × DataW H) → Nat
  | [] => 0
  | x :: r => uptoBulkEntry x + uptoBulkEntries r
def uptoBulkEntry {H : Type} : Lit × DataW H → Nat
  | (.string bytes, d) => bytes.length + uptoBulk d + 1
  | (_, d) => uptoBulk d + 1
 end
def uptoSmall : (H : Type) → List (DataW H) → Bool := fun _ ds => decide (uptoBulkAll ds ≤ 1048576)
def OpenSpec.upto (s : _root_.Go.ChangeSpec) : _root_.Go.OpenSpec := { _root_.Go.OpenSpec.ofChange s with cond := some uptoSmall }

/-- 'fairkeep.KeysFront', WHERE WHAT IT READS IS OF BULK AT MOST 1048576: true; the input reads as it did. -/
def keysFrontUptoRow : OpenClaim := { program := "ytpgffhmcangllaa", sum := "647c69d79ffb8cb6e3c06435881d36511869826d7ebf1e591cd0deaa4febc28b", func := "fairhand/fairkeep.KeysFront", spec := "keysFront", apart := false, narrowed := true }
def KeysFrontUptoSaid : Prop := keysFrontUptoRow.holds Try.pinned (OpenSpec.upto keysFrontSpec)

/-- 'fairkeep.KeysBack', WHERE WHAT IT READS IS OF BULK AT MOST 1048576: true; the input reads as it did. -/
def keysBackUptoRow : OpenClaim := { program := "ytpgffhmcangllaa", sum := "647c69d79ffb8cb6e3c06435881d36511869826d7ebf1e591cd0deaa4febc28b", func := "fairhand/fairkeep.KeysBack", spec := "keysBack", apart := false, narrowed := true }
def KeysBackUptoSaid : Prop := keysBackUptoRow.holds Try.pinned (OpenSpec.upto keysBackSpec)

/-- 'fairkeep.KeysCount', WHERE WHAT IT READS IS OF BULK AT MOST 1048576: true; the input reads as it did. -/
def keysCountUptoRow : OpenClaim := { program := "ytpgffhmcangllaa", sum := "647c69d79ffb8cb6e3c06435881d36511869826d7ebf1e591cd0deaa4febc28b", func := "fairhand/fairkeep.KeysCount", spec := "keysCount", apart := false, narrowed := true }
def KeysCountUptoSaid : Prop := keysCountUptoRow.holds Try.pinned (OpenSpec.upto keysCountSpec)

end Rows
end Go.Proofs.Ytpgffhmcangllaa
