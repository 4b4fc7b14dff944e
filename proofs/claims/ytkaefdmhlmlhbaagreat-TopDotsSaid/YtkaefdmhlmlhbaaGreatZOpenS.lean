/-
  Part ZOpenS.
-/
import Derived.Test.YtkaefdmhlmlhbaaGreatZShell
import Derived.SizedLaws
set_option maxRecDepth 100000
set_option maxHeartbeats 16000000
set_option linter.unusedVariables false
set_option linter.unusedSimpArgs false
namespace Go.Proofs.YtkaefdmhlmlhbaaGreat
open Value renaming int→Av
open Go.ChangeShapes Go.WideShapes Go.ChangeAt Go.RowKit Go.WideElems
section
variable {H:Type} {enc:TypeId×Value→H} {P:Program}
def dE (P:Program)(fs:Array Field)(i:Nat):Bool:=
 match fs[i]? with
 |some f=>f.offset==i&&P.cellsOf f.type==1&&(match P.underlying f.type with|some (.int .i64)=>true|_=>false)
 |none=>false
def J6j (P:Program)(fs:Array Field):Bool:=(List.range fs.size).all (dE P fs)
theorem Ub {W:World}{base b0:Nat}{r:Reach}{t:TypeId}{fs:Array Field}{v:Value}{d:DataW H}{p:List MemPlace}(ht:P.underlying t=some (.struct fs))(hc:P.cellsOf t=fs.size)(KO:J6j P fs=true)
 (hv:Value.okWide P W r b0 t v) (h:DataW.Trod enc P W base (fun _=>true) true t v d p):
 ∃zs:List Int,v=.agg (zs.map (Av .i64)).toArray∧zs.length=fs.size∧(∀x∈zs,(Lit.int .i64 x).wf=true):=by
 obtain⟨cs,rfl,dl⟩:=okWide_struct ht hv;obtain⟨fuel,hf⟩:=h;obtain⟨xs,n,_,hx,hl,mz,ax⟩:=DataW.trod_struct ht hf;have ff:∀i,i<fs.size→∃z,cs[i]? = some (.int .i64 z)∧(Lit.int .i64 z).wf=true:=by
  intro i hi;have hB:=List.all_eq_true.1 KO i (by simpa using hi)
  unfold dE at hB;cases ny:fs[i]? with
  |none=>rw[ny]at hB;cases hB
  |some f=>
   rw[ny]at hB;simp only[Bool.and_eq_true,beq_iff_eq]at hB;obtain⟨⟨ho,hce⟩,Ib⟩:=hB;have hu:P.underlying f.type=some (.int .i64):=by
    split at Ib
    ·assumption
    ·cases Ib
   have hd:=ax i f ny;rw[List.getElem?_eq_getElem (by omega:i<xs.length)]at hd
   obtain⟨z,hz,_,hw⟩:=DataW.trod_int hu hd;refine⟨z,?_,hw⟩
   rw[ho,hce]at hz;have h0:((cs.toList.drop i).take 1)[0]? = some (Av .i64 z):=by
    have:(Value.agg cs).cells.toList=cs.toList:=rfl;rw[this]at hz;rw[hz];rfl
   rw[List.getElem?_take,if_pos (by omega),List.getElem?_drop]at h0
   simpa using h0
 refine⟨cs.toList.map intOf,?_,by simp[dl,hc],?_⟩
 ·congr 1
  apply Array.ext
  ·simp
  ·intro i h1 h2
   obtain⟨z,hz,_⟩:=ff i (by omega)
   rw[Array.getElem?_eq_getElem h1]at hz;injection hz with hz;simp[hz,intOf]
 ·intro x hx
  obtain⟨v,JP,rfl⟩:=List.mem_map.1 hx;obtain⟨i,hi,rfl⟩:=List.mem_iff_getElem.1 JP;obtain⟨z,hz,hw⟩:=ff i (by simp at hi;omega)
  simp at hi;rw[Array.getElem?_eq_getElem hi]at hz;injection hz with hz;simp[hz,intOf,hw]
end
theorem oJ (zs:List Int)(h:zs.length=5):∃a b c d e,zs=[a,b,c,d,e]:=by
 match zs,h with
 |[a,b,c,d,e],_=>exact⟨a,b,c,d,e,rfl⟩
open Go.ChangeShapes Go.WideShapes Go.ChangeAt Go.RowKit Go.WideElems
theorem nO:reachBytes=140737488351232:=by decide
theorem gW {H:Type}{P:Program}{ts:List TypeId}{ds:List (DataW H)}(h:(DataW.weightsEach P ts ds).all (· ≤ reachBytes)=true){j:Nat}{t e:TypeId}{d:DataW H}{l:List Int}{n c:Nat}
 (ht:ts[j]? = some t) (hd:ds[j]? = some d) (hu:P.underlying t=some (.slice e)) (hb:P.bytesOf e=8) (hl:l.length=n)
 (he:(d=.nil∧n=0∧c=0)∨∃rest,d=.slice (lits .i64 l) (lits .i64 rest)∧rest.length+n=c):n*8≤140737488351232:=by
 rcases he with⟨_,rfl,_⟩|⟨rest,rfl,_⟩
 ·omega
 ·have:=sized_slice h ht hd hu
  rw[hb,nO]at this;have SH:(lits (H:=H) .i64 l).length=n:=by simp[lits,hl]
  rw[SH]at this;omega
theorem eS {H:Type}{enc:TypeId×Value→H}{P:Program}{W:World}{base b0:Nat}{r:Reach}{t e:TypeId}{v:Value}{d:DataW H}{p:List MemPlace}(ht:P.underlying t=some (.slice e))(he:P.underlying e=some (.int .i64))(hc:P.cellsOf e=1)
 (hv:Value.okWide P W r b0 t v) (h:DataW.Trod enc P W base (fun _=>true) true t v d p):
 ∃A n c l,v=.slice A n c∧Bj W A n c l∧(∀x∈l,(Lit.int .i64 x).wf=true)∧
  ((d=.nil∧n=0∧c=0)∨∃rest,d=.slice (lits .i64 l) (lits .i64 rest)∧rest.length+n=c)∧(A=none→c=0):=by
 obtain⟨A,n,c,l,rfl,h1,h2,h3⟩:=iI ht he hc hv h;refine⟨A,n,c,l,rfl,h1,h2,h3,?_⟩
 rintro rfl;rcases h3 with⟨_,_,h0⟩|⟨rest,rfl,hr⟩
 ·exact h0
 ·obtain⟨fuel,hf⟩:=h
  rcases DataW.trod_slice ht hf with⟨_,hx⟩|⟨a,len,cap,elems,rest',n',_,ff,_⟩
  ·simp only[Prod.mk.injEq]at hx
   exact absurd hx.1 (by simp)
  ·simp[Value.cells]at ff
