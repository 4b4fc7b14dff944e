/-
  No cell of these rows narrows 'for every input' (looked for: loops, veiled, ifaces, maps, wideKeys, modest, calm, conditions, laid).
  DERIVED. THE GIVEN ROWS OF THIS SEAT. 6 by the template 'for every input the law returns true; each argument reads behind the call as it read before'; 0 by the template 'total and deterministic' (their statements: YtdkjkcegchohfaaTotals.lean).
  GIVEN WITH THE SEED: the statements are not yours to turn. If you find one false, say at which input.
  Laid BY PROGRAM, IN A SANDBOX (cutbox-rows.mjs): the forced cells as the released guide's own fill.sh prints them over the translation 7cb3e88ce44fe8ca… (all of the seat's roots in one cut). By AI agents, Wed Nov 11 2026. No macro, syntax, notation, axiom, sorry.
-/
import Derived.Test.YtdkjkcegchohfaaChecked
import GoSem.Claim
import GoSem.ClaimJoined
import GoSem.ClaimMapViews
import Derived.JoinedTies
import Derived.KernelRfl
namespace Go.Proofs.Ytdkjkcegchohfaa
/- THE CELL 'sum', in the pinned program and in every row, IS THE sha256 OF THE DUMP (.gsa) THAT YtdkjkcegchohfaaProg.lean LOADS. Nothing in Lean hashes anything: it is a label: what it is worth is what the hold of that sum in a sandbox is worth. -/
noncomputable def Try.pinned : Pinned := { name := "ytdkjkcegchohfaa", sum := "7cb3e88ce44fe8caa05560e009203bdcb87137ce22d1e7d51c9cbde2f5c4ab85", checked := Try.checked }
namespace Rows
def none {H : Type} : Left H := { results := [], args := [] }

/-- 'fairkeep.AbbrHits': WHATEVER THE INPUT: true; the input reads as it did. -/
def abbrHitsSpec : ChangeSpec := { name := "abbrHits", fn := fun _ => fun
  | [d1, d2] => { results := [.lit (.bool true)], args := [d1, d2] }
  | _ => none }
def abbrHitsRow : OpenClaim := { program := "ytdkjkcegchohfaa", sum := "7cb3e88ce44fe8caa05560e009203bdcb87137ce22d1e7d51c9cbde2f5c4ab85", func := "fairhand/fairkeep.AbbrHits", spec := "abbrHits", unfollowed := true, recurses := true, apart := false }
def AbbrHitsSaid : Prop := abbrHitsRow.holds Try.pinned (OpenSpec.ofChange abbrHitsSpec)

/-- ITS FALSE NEIGHBOUR: 'it returns false'. Refute it at one input. -/
def abbrHitsWrong : ChangeSpec := { name := "abbrHits", fn := fun _ => fun
  | [d1, d2] => { results := [.lit (.bool false)], args := [d1, d2] }
  | _ => none }
def AbbrHitsWrongFalsely : Prop := abbrHitsRow.holds Try.pinned (OpenSpec.ofChange abbrHitsWrong)

/-- 'fairkeep.AbbrParts': WHATEVER THE INPUT: true; the input reads as it did. -/
def abbrPartsSpec : ChangeSpec := { name := "abbrParts", fn := fun _ => fun
  | [d1, d2, d3] => { results := [.lit (.bool true)], args := [d1, d2, d3] }
  | _ => none }
def abbrPartsRow : OpenClaim := { program := "ytdkjkcegchohfaa", sum := "7cb3e88ce44fe8caa05560e009203bdcb87137ce22d1e7d51c9cbde2f5c4ab85", func := "fairhand/fairkeep.AbbrParts", spec := "abbrParts", unfollowed := true, recurses := true, apart := false }
def AbbrPartsSaid : Prop := abbrPartsRow.holds Try.pinned (OpenSpec.ofChange abbrPartsSpec)

/-- ITS FALSE NEIGHBOUR: 'it returns false'. Refute it at one input. -/
def abbrPartsWrong : ChangeSpec := { name := "abbrParts", fn := fun _ => fun
  | [d1, d2, d3] => { results := [.lit (.bool false)], args := [d1, d2, d3] }
  | _ => none }
def AbbrPartsWrongFalsely : Prop := abbrPartsRow.holds Try.pinned (OpenSpec.ofChange abbrPartsWrong)

/-- 'fairkeep.NearBest': WHATEVER THE INPUT: true; the input reads as it did. -/
def nearBestSpec : ChangeSpec := { name := "nearBest", fn := fun _ => fun
  | [d1, d2] => { results := [.lit (.bool true)], args := [d1, d2] }
  | _ => none }
def nearBestRow : OpenClaim := { program := "ytdkjkcegchohfaa", sum := "7cb3e88ce44fe8caa05560e009203bdcb87137ce22d1e7d51c9cbde2f5c4ab85", func := "fairhand/fairkeep.NearBest", spec := "nearBest", unfollowed := true, recurses := true, apart := false }
def NearBestSaid : Prop := nearBestRow.holds Try.pinned (OpenSpec.ofChange nearBestSpec)

/-- ITS FALSE NEIGHBOUR: 'it returns false'. Refute it at one input. -/
def nearBestWrong : ChangeSpec := { name := "nearBest", fn := fun _ => fun
  | [d1, d2] => { results := [.lit (.bool false)], args := [d1, d2] }
  | _ => none }
def NearBestWrongFalsely : Prop := nearBestRow.holds Try.pinned (OpenSpec.ofChange nearBestWrong)

/-- 'fairkeep.NearWithin': WHATEVER THE INPUT: true; the input reads as it did. -/
def nearWithinSpec : ChangeSpec := { name := "nearWithin", fn := fun _ => fun
  | [d1, d2, d3] => { results := [.lit (.bool true)], args := [d1, d2, d3] }
  | _ => none }
def nearWithinRow : OpenClaim := { program := "ytdkjkcegchohfaa", sum := "7cb3e88ce44fe8caa05560e009203bdcb87137ce22d1e7d51c9cbde2f5c4ab85", func := "fairhand/fairkeep.NearWithin", spec := "nearWithin", unfollowed := true, recurses := true, apart := false }
def NearWithinSaid : Prop := nearWithinRow.holds Try.pinned (OpenSpec.ofChange nearWithinSpec)

/-- ITS FALSE NEIGHBOUR: 'it returns false'. Refute it at one input. -/
def nearWithinWrong : ChangeSpec := { name := "nearWithin", fn := fun _ => fun
  | [d1, d2, d3] => { results := [.lit (.bool false)], args := [d1, d2, d3] }
  | _ => none }
def NearWithinWrongFalsely : Prop := nearWithinRow.holds Try.pinned (OpenSpec.ofChange nearWithinWrong)

/-- 'fairkeep.TrieMore': WHATEVER THE INPUT: true; the input reads as it did. -/
def trieMoreSpec : ChangeSpec := { name := "trieMore", fn := fun _ => fun
  | [d1, d2] => { results := [.lit (.bool true)], args := [d1, d2] }
  | _ => none }
def trieMoreRow : OpenClaim := { program := "ytdkjkcegchohfaa", sum := "7cb3e88ce44fe8caa05560e009203bdcb87137ce22d1e7d51c9cbde2f5c4ab85", func := "fairhand/fairkeep.TrieMore", spec := "trieMore", unfollowed := true, recurses := true, apart := false }
def TrieMoreSaid : Prop := trieMoreRow.holds Try.pinned (OpenSpec.ofChange trieMoreSpec)

/-- ITS FALSE NEIGHBOUR: 'it returns false'. Refute it at one input. -/
def trieMoreWrong : ChangeSpec := { name := "trieMore", fn := fun _ => fun
  | [d1, d2] => { results := [.lit (.bool false)], args := [d1, d2] }
  | _ => none }
def TrieMoreWrongFalsely : Prop := trieMoreRow.holds Try.pinned (OpenSpec.ofChange trieMoreWrong)

/-- 'fairkeep.TrieWords': WHATEVER THE INPUT: true; the input reads as it did. -/
def trieWordsSpec : ChangeSpec := { name := "trieWords", fn := fun _ => fun
  | [d1, d2] => { results := [.lit (.bool true)], args := [d1, d2] }
  | _ => none }
def trieWordsRow : OpenClaim := { program := "ytdkjkcegchohfaa", sum := "7cb3e88ce44fe8caa05560e009203bdcb87137ce22d1e7d51c9cbde2f5c4ab85", func := "fairhand/fairkeep.TrieWords", spec := "trieWords", unfollowed := true, recurses := true, apart := false }
def TrieWordsSaid : Prop := trieWordsRow.holds Try.pinned (OpenSpec.ofChange trieWordsSpec)

/-- ITS FALSE NEIGHBOUR: 'it returns false'. Refute it at one input. -/
def trieWordsWrong : ChangeSpec := { name := "trieWords", fn := fun _ => fun
  | [d1, d2] => { results := [.lit (.bool false)], args := [d1, d2] }
  | _ => none }
def TrieWordsWrongFalsely : Prop := trieWordsRow.holds Try.pinned (OpenSpec.ofChange trieWordsWrong)

/- THE SECOND FORM. 'bulk': how many values and letters a reading holds, each counted each time it is reached (what is shared counts as often as it is met; a slice's spare places count too). A statement '..UptoSaid' is the law's where the arguments, and the package variables that the reading takes, are together of bulk at most 1048576: NARROWER than '..Said'. Prove '..Said' where nothing that the law and all that it calls make is longer than what came in: it says more and counts as full. Else prove '..UptoSaid'. A law counts once. -/
mutual
def uptoBulk {H : Type} : DataW H → Nat
  | .lit (.string bytes) => bytes.length + 1
  | .lit _ => 1
  | .nil => 1
  | .ptr d => uptoBulk d + 1
  | .slice elems spare => uptoBulkAll elems + uptoBulkAll spare + 1
  | .agg parts => uptoBulkAll parts + 1
  | .iface _ d => uptoBulk d + 1
  | .map entries => uptoBulkEntries entries + 1
  | .held _ => 1
def uptoBulkAll {H : Type} : List (DataW H) → Nat
  | [] => 0
  | d :: r => uptoBulk d + uptoBulkAll r
def uptoBulkEntries {H : Type} : List (Lit × DataW H) → Nat
  | [] => 0
  | x :: r => uptoBulkEntry x + uptoBulkEntries r
def uptoBulkEntry {H : Type} : Lit × DataW H → Nat
  | (.string bytes, d) => bytes.length + uptoBulk d + 1
  | (_, d) => uptoBulk d + 1
 end
def uptoSmall : (H : Type) → List (DataW H) → Bool := fun _ ds => decide (uptoBulkAll ds ≤ 1048576)
def OpenSpec.upto (s : _root_.Go.ChangeSpec) : _root_.Go.OpenSpec := { _root_.Go.OpenSpec.ofChange s with cond := some uptoSmall }

/-- 'fairkeep.AbbrHits', WHERE WHAT IT READS IS OF BULK AT MOST 1048576: true; the input reads as it did. -/
def abbrHitsUptoRow : OpenClaim := { program := "ytdkjkcegchohfaa", sum := "7cb3e88ce44fe8caa05560e009203bdcb87137ce22d1e7d51c9cbde2f5c4ab85", func := "fairhand/fairkeep.AbbrHits", spec := "abbrHits", unfollowed := true, recurses := true, apart := false, narrowed := true }
def AbbrHitsUptoSaid : Prop := abbrHitsUptoRow.holds Try.pinned (OpenSpec.upto abbrHitsSpec)

/-- 'fairkeep.AbbrParts', WHERE WHAT IT READS IS OF BULK AT MOST 1048576: true; the input reads as it did. -/
def abbrPartsUptoRow : OpenClaim := { program := "ytdkjkcegchohfaa", sum := "7cb3e88ce44fe8caa05560e009203bdcb87137ce22d1e7d51c9cbde2f5c4ab85", func := "fairhand/fairkeep.AbbrParts", spec := "abbrParts", unfollowed := true, recurses := true, apart := false, narrowed := true }
def AbbrPartsUptoSaid : Prop := abbrPartsUptoRow.holds Try.pinned (OpenSpec.upto abbrPartsSpec)

/-- 'fairkeep.NearBest', WHERE WHAT IT READS IS OF BULK AT MOST 1048576: true; the input reads as it did. -/
def nearBestUptoRow : OpenClaim := { program := "ytdkjkcegchohfaa", sum := "7cb3e88ce44fe8caa05560e009203bdcb87137ce22d1e7d51c9cbde2f5c4ab85", func := "fairhand/fairkeep.NearBest", spec := "nearBest", unfollowed := true, recurses := true, apart := false, narrowed := true }
def NearBestUptoSaid : Prop := nearBestUptoRow.holds Try.pinned (OpenSpec.upto nearBestSpec)

/-- 'fairkeep.NearWithin', WHERE WHAT IT READS IS OF BULK AT MOST 1048576: true; the input reads as it did. -/
def nearWithinUptoRow : OpenClaim := { program := "ytdkjkcegchohfaa", sum := "7cb3e88ce44fe8caa05560e009203bdcb87137ce22d1e7d51c9cbde2f5c4ab85", func := "fairhand/fairkeep.NearWithin", spec := "nearWithin", unfollowed := true, recurses := true, apart := false, narrowed := true }
def NearWithinUptoSaid : Prop := nearWithinUptoRow.holds Try.pinned (OpenSpec.upto nearWithinSpec)

/-- 'fairkeep.TrieMore', WHERE WHAT IT READS IS OF BULK AT MOST 1048576: true; the input reads as it did. -/
def trieMoreUptoRow : OpenClaim := { program := "ytdkjkcegchohfaa", sum := "7cb3e88ce44fe8caa05560e009203bdcb87137ce22d1e7d51c9cbde2f5c4ab85", func := "fairhand/fairkeep.TrieMore", spec := "trieMore", unfollowed := true, recurses := true, apart := false, narrowed := true }
def TrieMoreUptoSaid : Prop := trieMoreUptoRow.holds Try.pinned (OpenSpec.upto trieMoreSpec)

/-- 'fairkeep.TrieWords', WHERE WHAT IT READS IS OF BULK AT MOST 1048576: true; the input reads as it did. -/
def trieWordsUptoRow : OpenClaim := { program := "ytdkjkcegchohfaa", sum := "7cb3e88ce44fe8caa05560e009203bdcb87137ce22d1e7d51c9cbde2f5c4ab85", func := "fairhand/fairkeep.TrieWords", spec := "trieWords", unfollowed := true, recurses := true, apart := false, narrowed := true }
def TrieWordsUptoSaid : Prop := trieWordsUptoRow.holds Try.pinned (OpenSpec.upto trieWordsSpec)

end Rows
end Go.Proofs.Ytdkjkcegchohfaa
