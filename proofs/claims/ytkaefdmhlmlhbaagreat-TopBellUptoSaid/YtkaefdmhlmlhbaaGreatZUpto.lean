/-
  Part of the proof: ZUpto.
-/
import Derived.Test.YtkaefdmhlmlhbaaGreatZShell
set_option maxRecDepth 100000
set_option maxHeartbeats 16000000
set_option linter.unusedVariables false
set_option linter.unusedSimpArgs false
namespace Go.Proofs.YtkaefdmhlmlhbaaGreat
open Go.ChangeShapes Go.WideShapes Go.ChangeAt Go.RowKit Go.WideElems
theorem Z4i {H:Type}{d:DataW H}{s:ByteArray}(he:d=.lit (.string s.data.toList)):s.size≤Rows.uptoBulk d:=by
 subst he;rw[Rows.uptoBulk];have h9:s.data.toList.length=s.size:=rfl;omega
