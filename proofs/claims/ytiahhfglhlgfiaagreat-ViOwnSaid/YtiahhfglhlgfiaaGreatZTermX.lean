/-
  Part ZTermX.
-/
import Derived.Test.YtiahhfglhlgfiaaGreatZClone
import Derived.Deep.RegionHeld3
import Derived.IntWalk
import Derived.BigRegion
set_option maxRecDepth 100000
set_option maxHeartbeats 16000000
set_option linter.unusedVariables false
set_option linter.unusedSimpArgs false
namespace Go.Proofs.YtiahhfglhlgfiaaGreat
open Go.RowKit
def Rs (l:List Int)(n:Nat)(at_:Int):Prop:=2≤n∧n≤120∧0≤at_∧at_≤n∧∀k,k<n→Me (gI l k)
