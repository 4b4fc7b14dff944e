/-
  Part ZOpenS.
-/
import Derived.Test.YtkaefdmhlmlhbaaGreatZShell
import Derived.SizedLaws
set_option maxRecDepth 100000
set_option maxHeartbeats 16000000
set_option linter.unusedVariables false
set_option linter.unusedSimpArgs false
namespace Go.Proofs.YtkaefdmhlmlhbaaGreat
open Go.ChangeShapes Go.WideShapes Go.ChangeAt Go.RowKit Go.WideElems
theorem nO:reachBytes=140737488351232:=by decide
theorem gW {H:Type}{P:Program}{ts:List TypeId}{ds:List (DataW H)}(h:(DataW.weightsEach P ts ds).all (· ≤ reachBytes)=true){j:Nat}{t e:TypeId}{d:DataW H}{l:List Int}{n c:Nat}
 (ht:ts[j]? = some t) (hd:ds[j]? = some d) (hu:P.underlying t=some (.slice e)) (hb:P.bytesOf e=8) (hl:l.length=n)
 (he:(d=.nil∧n=0∧c=0)∨∃rest,d=.slice (lits .i64 l) (lits .i64 rest)∧rest.length+n=c):n*8≤140737488351232:=by
 rcases he with⟨_,rfl,_⟩|⟨rest,rfl,_⟩
 ·omega
 ·have:=sized_slice h ht hd hu
  rw[hb,nO]at this;have SH:(lits (H:=H) .i64 l).length=n:=by simp[lits,hl]
  rw[SH]at this;omega
theorem eS {H:Type}{enc:TypeId×Value→H}{P:Program}{W:World}{base b0:Nat}{r:Reach}{t e:TypeId}{v:Value}{d:DataW H}{p:List MemPlace}(ht:P.underlying t=some (.slice e))(he:P.underlying e=some (.int .i64))(hc:P.cellsOf e=1)
 (hv:Value.okWide P W r b0 t v) (h:DataW.Trod enc P W base (fun _=>true) true t v d p):
 ∃A n c l,v=.slice A n c∧Bj W A n c l∧(∀x∈l,(Lit.int .i64 x).wf=true)∧
  ((d=.nil∧n=0∧c=0)∨∃rest,d=.slice (lits .i64 l) (lits .i64 rest)∧rest.length+n=c)∧(A=none→c=0):=by
 obtain⟨A,n,c,l,rfl,h1,h2,h3⟩:=iI ht he hc hv h;refine⟨A,n,c,l,rfl,h1,h2,h3,?_⟩
 rintro rfl;rcases h3 with⟨_,_,h0⟩|⟨rest,rfl,hr⟩
 ·exact h0
 ·obtain⟨fuel,hf⟩:=h
  rcases DataW.trod_slice ht hf with⟨_,hx⟩|⟨a,len,cap,elems,rest',n',_,ff,_⟩
  ·simp only[Prod.mk.injEq]at hx
   exact absurd hx.1 (by simp)
  ·simp[Value.cells]at ff
