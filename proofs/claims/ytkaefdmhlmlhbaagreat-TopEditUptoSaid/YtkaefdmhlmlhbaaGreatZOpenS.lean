/-
  Part ZOpenS.
-/
import Derived.Test.YtkaefdmhlmlhbaaGreatZShell
import Derived.SizedLaws
set_option maxRecDepth 100000
set_option maxHeartbeats 16000000
set_option linter.unusedVariables false
set_option linter.unusedSimpArgs false
namespace Go.Proofs.YtkaefdmhlmlhbaaGreat
open Value renaming int→At
open Go.ChangeShapes Go.WideShapes Go.ChangeAt Go.RowKit Go.WideElems
section
variable {H:Type} {enc:TypeId×Value→H} {P:Program}
def bB (P:Program)(fs:Array Field)(i:Nat):Bool:=
 match fs[i]? with
 |some f=>f.offset==i&&P.cellsOf f.type==1&&(match P.underlying f.type with|some (.int .i64)=>true|_=>false)
 |none=>false
def J1z (P:Program)(fs:Array Field):Bool:=(List.range fs.size).all (bB P fs)
theorem T5 {W:World}{base b0:Nat}{r:Reach}{t:TypeId}{fs:Array Field}{v:Value}{d:DataW H}{p:List MemPlace}(ht:P.underlying t=some (.struct fs))(hc:P.cellsOf t=fs.size)(hfs:J1z P fs=true)
 (hv:Value.okWide P W r b0 t v) (h:DataW.Trod enc P W base (fun _=>true) true t v d p):
 ∃zs:List Int,v=.agg (zs.map (At .i64)).toArray∧zs.length=fs.size∧(∀x∈zs,(Lit.int .i64 x).wf=true):=by
 obtain⟨cs,rfl,hsz⟩:=okWide_struct ht hv;obtain⟨fuel,hf⟩:=h;obtain⟨xs,n,_,hx,hl,hxs,hall⟩:=DataW.trod_struct ht hf;have hcs:∀i,i<fs.size→∃z,cs[i]? = some (.int .i64 z)∧(Lit.int .i64 z).wf=true:=by
  intro i hi;have hB:=List.all_eq_true.1 hfs i (by simpa using hi)
  unfold bB at hB;cases hfi:fs[i]? with
  |none=>rw[hfi]at hB;cases hB
  |some f=>
   rw[hfi]at hB;simp only[Bool.and_eq_true,beq_iff_eq]at hB;obtain⟨⟨ho,hce⟩,hty⟩:=hB;have hu:P.underlying f.type=some (.int .i64):=by
    split at hty
    ·assumption
    ·cases hty
   have hd:=hall i f hfi;rw[List.getElem?_eq_getElem (by omega:i<xs.length)]at hd
   obtain⟨z,hz,_,hw⟩:=DataW.trod_int hu hd;refine⟨z,?_,hw⟩
   rw[ho,hce]at hz;have h0:((cs.toList.drop i).take 1)[0]? = some (At .i64 z):=by
    have:(Value.agg cs).cells.toList=cs.toList:=rfl;rw[this]at hz;rw[hz];rfl
   rw[List.getElem?_take,if_pos (by omega),List.getElem?_drop]at h0
   simpa using h0
 refine⟨cs.toList.map intOf,?_,by simp[hsz,hc],?_⟩
 ·congr 1
  apply Array.ext
  ·simp
  ·intro i h1 h2
   obtain⟨z,hz,_⟩:=hcs i (by omega)
   rw[Array.getElem?_eq_getElem h1]at hz;injection hz with hz;simp[hz,intOf]
 ·intro x hx
  obtain⟨v,hv1,rfl⟩:=List.mem_map.1 hx;obtain⟨i,hi,rfl⟩:=List.mem_iff_getElem.1 hv1;obtain⟨z,hz,hw⟩:=hcs i (by simp at hi;omega)
  simp at hi;rw[Array.getElem?_eq_getElem hi]at hz;injection hz with hz;simp[hz,intOf,hw]
end
theorem lD (zs:List Int)(h:zs.length=5):∃a b c d e,zs=[a,b,c,d,e]:=by
 match zs,h with
 |[a,b,c,d,e],_=>exact⟨a,b,c,d,e,rfl⟩
open Go.ChangeShapes Go.WideShapes Go.ChangeAt Go.RowKit Go.WideElems
theorem Tq {H:Type}{d:DataW H}{s:ByteArray}(he:d=.lit (.string s.data.toList)):s.size≤Rows.uptoBulk d:=by
 subst he;rw[Rows.uptoBulk];have h9:s.data.toList.length=s.size:=rfl;omega
