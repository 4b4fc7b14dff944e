/-
  Part ZShell.
-/
import Derived.Test.YtkaefdmhlmlhbaaGreatZBase
import Derived.JoinedCond
import Derived.Deep.Slices
set_option maxRecDepth 100000
set_option maxHeartbeats 16000000
set_option linter.unusedVariables false
set_option linter.unusedSimpArgs false
namespace Go.Proofs.YtkaefdmhlmlhbaaGreat
open _root_.Go.Proofs.Tryz
open Go.ChangeShapes Go.WideShapes Go.ChangeAt Go.RowKit Go.WideElems
theorem uE:ownKnob prog.godebug=none:=by kernel_rfl
theorem uX:laidOutB prog=true:=by kernel_rfl
theorem pV:prog.cellsOf 3=1:=by kernel_rfl
section
variable {H:Type} {enc:TypeId×Value→H} {P:Program}
theorem Qz {W W':World}(hl:laidOutB P=true)(hb:An W W'):∀(ts:List TypeId) (vs:List Value) (ds:List (DataW H)) (ps:List MemPlace),(∀t∈ts,P.readableRec t=true∧t<P.types.size)→
 DataW.TrodAll enc P W 0 (fun _=>true) true ts vs ds ps→(∀x∈ps,x.block<W.heap.size)→∀sp:Nat→Bool,(∀x∈ps,sp x.block=true)→DataW.TrodAll enc P W' 0 sp true ts vs ds ps
 |[],vs,ds,ps,_,h,_,_,_=>by
  obtain⟨rfl,rfl,rfl⟩:=trodAll_nil h;exact trodAll_mk0
 |t::ts,vs,ds,ps,hr,h,ae,sp,hs=>by
  obtain⟨v,vs',d,ds',p,q,rfl,rfl,rfl,h0,h1⟩:=trodAll_cons h;have a0:=Trod_stays hl (hr t (by simp)).1 (hr t (by simp)).2 (W':=W') (sp':=sp) h0 (fun x hx=>Below.same hb (ae x (by simp[hx]))) (fun x hx=>hs x (by simp[hx]))
  have a1:=Qz hl hb ts vs' ds' q (fun t ht=>hr t (by simp[ht])) h1 (fun x hx=>ae x (by simp[hx])) sp (fun x hx=>hs x (by simp[hx]))
  exact trodAll_cons_mk a0 a1
theorem nR {f:Func}{s:ChangeSpec}{apart fresh BX again:Bool}{W W':World}{args:Array Value}{ds gs:List (DataW H)}{before:List MemPlace}{tb:TypeId}
 (hl:laidOutB P=true) (mm:(f.params.toList.all fun t=>P.readableRec t&&decide (t<P.types.size))=true) (EF:P.underlying tb=some .bool) (dp:f.resultTypes=#[tb])
 (hW:DataW.Whole enc P f.params.toList s.vars apart W args.toList ds gs before) (EE:s.vars=[])
 (KR:s.fn H (ds++gs)={ results:=[.lit (.bool true)],args:=ds }) (he:An W W'):
 s.post enc P f apart fresh BX again W args (.bool true) W':=by
 have hr:∀t∈f.params.toList,P.readableRec t=true∧t<P.types.size:=fun t ht=>by
  have:=List.all_eq_true.1 mm t ht
  simpa using this
 have ae:∀p∈before,p.block<W.heap.size:=fun p hp=>hW.lt p hp
 have hold:∀p∈before,(fun b=>decide (b<W.heap.size)) p.block=true:=fun p hp=>by simpa using ae p hp
 have hW0:=hW;obtain⟨p,q,hA,hV,rfl,hz,hn⟩:=hW;rw[EE]at hV;obtain⟨rfl,rfl⟩:=trodVars_none hV;rw[List.append_nil]at*;have EG:∀(b:Nat) (sp:Nat→Bool) (hd:Bool),DataW.TrodAll enc P W' b sp hd f.resultTypes.toList ((Value.bool true).resultList f.resultTypes.size) (s.fn H ds).results []:=by
  intro b sp hd;rw[dp,KR];exact trodAll_mk1 (shut_bool EF true)
 have xx:∀sp:Nat→Bool,(∀x∈p,sp x.block=true)→DataW.TrodAll enc P W' 0 sp true f.params.toList args.toList (s.fn H ds).args p:=by
  intro sp hs;rw[KR];exact Qz hl he _ _ _ _ hr hA ae sp hs
 have EH:∀sp:Nat→Bool,DataW.TrodVars enc P W' sp s.vars (s.fn H ds).vars []:=by
  intro sp;rw[EE,KR]
  rfl
 refine⟨ds,[],p,[],p,[],by simpa using hW0,by simpa using EG _ _ _,by simpa using xx _ hold,by simpa using EH _,World.keptBut_mono (fun x hx=>⟨hx,Or.inr (by simpa using hx)⟩) (Below.frame he (· ∈ p)),fun _=>?_⟩
 refine⟨?_,_,_,[]++p,⟨[]++p,[],trodAll_append (by simpa using xx _ (fun _ _=>rfl)) (by simpa using EG _ _ _),by simpa using EH _,by simp,?_,?_⟩,?_⟩
 ·intro j t r h1 h2
  rw[dp]at h1;obtain⟨rfl,rfl⟩:j=0∧t=tb:=by
   rcases j with _|j
   ·simp at h1;exact⟨rfl,h1.symm⟩
   ·simp at h1
  rw[dp]at h2;simp[Value.resultList]at h2;subst h2;exact okWide_bool_mk EF true
 ·intro b off hp
  have lm:MemPlace.cell b off∈p:=by simpa using hp
  rw[Below.frozen he (ae _ lm)];exact hz b off lm
 ·intro ha
  simpa using hn ha
 ·intro x hx _
  simpa using hx
theorem iI {W:World}{base b0:Nat}{r:Reach}{t e:TypeId}{v:Value}{d:DataW H}{p:List MemPlace}(ht:P.underlying t=some (.slice e))(he:P.underlying e=some (.int .i64))(hc:P.cellsOf e=1)
 (hv:Value.okWide P W r b0 t v) (h:DataW.Trod enc P W base (fun _=>true) true t v d p):
 ∃A n c l,v=.slice A n c∧Bj W A n c l∧(∀x∈l,(Lit.int .i64 x).wf=true)∧
  ((d=.nil∧n=0∧c=0)∨∃rest,d=.slice (lits .i64 l) (lits .i64 rest)∧rest.length+n=c):=by
 obtain⟨a0,len,cap,rfl⟩:=okWide_slice ht hv;obtain⟨fuel,hf⟩:=h;rcases open_ints ht he hc hf with⟨ff,hx⟩|⟨a,pA,ib,zs,ff,_,hl,hm,hz,hx,kh,zq⟩
 ·simp[Value.cells]at ff
  obtain⟨rfl,rfl,rfl⟩:=ff;simp only[Prod.mk.injEq]at hx;exact⟨none,0,0,[],rfl,Bj.none_ W,by simp,.inl ⟨hx.1,rfl,rfl⟩⟩
 ·simp[Value.cells]at ff
  obtain⟨rfl,rfl,rfl⟩:=ff;simp only[if_true]at hz;simp only[Prod.mk.injEq]at hx;refine⟨some a,len,cap,zs.take len,rfl,⟨by simp;omega,hl,hm,fun _=>⟨a,rfl,fun j u hu=>?_⟩⟩,fun x hx=>zq x (List.mem_of_mem_take hx),.inr ⟨zs.drop len,hx.1,by simp;omega⟩⟩
  have hj:=(List.getElem?_eq_some_iff.1 hu).1;simp at hj;rw[kh j (by omega)]
  rw[←hu];simp[show j<len by omega,show j<zs.length by omega]
end
