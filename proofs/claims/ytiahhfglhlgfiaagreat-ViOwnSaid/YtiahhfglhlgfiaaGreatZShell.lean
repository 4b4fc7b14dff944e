/-
  Part ZShell.
-/
import Derived.Test.YtiahhfglhlgfiaaGreatZBase
import Derived.JoinedCond
import Derived.Deep.Slices
set_option maxRecDepth 100000
set_option maxHeartbeats 16000000
set_option linter.unusedVariables false
set_option linter.unusedSimpArgs false
namespace Go.Proofs.YtiahhfglhlgfiaaGreat
open Go.ChangeShapes Go.WideShapes Go.ChangeAt Go.RowKit Go.WideElems
theorem mR:ownKnob Tryz.prog.godebug=none:=by kernel_rfl
theorem nK:laidOutB Tryz.prog=true:=by kernel_rfl
section
variable {H:Type} {enc:TypeId×Value→H} {P:Program}
theorem Ns {W W':World}(hl:laidOutB P=true)(hb:Al W W'):∀(ts:List TypeId) (vs:List Value) (ds:List (DataW H)) (ps:List MemPlace),(∀t∈ts,P.readableRec t=true∧t<P.types.size)→
 DataW.TrodAll enc P W 0 (fun _=>true) true ts vs ds ps→(∀x∈ps,x.block<W.heap.size)→∀sp:Nat→Bool,(∀x∈ps,sp x.block=true)→DataW.TrodAll enc P W' 0 sp true ts vs ds ps
 |[],vs,ds,ps,_,h,_,_,_=>by
  obtain⟨rfl,rfl,rfl⟩:=trodAll_nil h;exact trodAll_mk0
 |t::ts,vs,ds,ps,hr,h,hlt,sp,hs=>by
  obtain⟨v,vs',d,ds',p,q,rfl,rfl,rfl,h0,h1⟩:=trodAll_cons h;have a0:=Trod_stays hl (hr t (by simp)).1 (hr t (by simp)).2 (W':=W') (sp':=sp) h0 (fun x hx=>Below.same hb (hlt x (by simp[hx]))) (fun x hx=>hs x (by simp[hx]))
  have a1:=Ns hl hb ts vs' ds' q (fun t ht=>hr t (by simp[ht])) h1 (fun x hx=>hlt x (by simp[hx])) sp (fun x hx=>hs x (by simp[hx]))
  exact trodAll_cons_mk a0 a1
theorem gY {f:Func}{s:ChangeSpec}{apart fresh handsOn again:Bool}{W W':World}{args:Array Value}{ds gs:List (DataW H)}{before:List MemPlace}{tb:TypeId}
 (hl:laidOutB P=true) (hr0:(f.params.toList.all fun t=>P.readableRec t&&decide (t<P.types.size))=true) (htb:P.underlying tb=some .bool) (hres:f.resultTypes=#[tb])
 (hW:DataW.Whole enc P f.params.toList s.vars apart W args.toList ds gs before) (hv0:s.vars=[])
 (hfn:s.fn H (ds++gs)={ results:=[.lit (.bool true)],args:=ds }) (he:Al W W'):
 s.post enc P f apart fresh handsOn again W args (.bool true) W':=by
 have hr:∀t∈f.params.toList,P.readableRec t=true∧t<P.types.size:=fun t ht=>by
  have:=List.all_eq_true.1 hr0 t ht
  simpa using this
 have hlt:∀p∈before,p.block<W.heap.size:=fun p hp=>hW.lt p hp
 have hold:∀p∈before,(fun b=>decide (b<W.heap.size)) p.block=true:=fun p hp=>by simpa using hlt p hp
 have hW0:=hW;obtain⟨p,q,hA,hV,rfl,hz,hn⟩:=hW;rw[hv0]at hV;obtain⟨rfl,rfl⟩:=trodVars_none hV;rw[List.append_nil]at*;have hres':∀(b:Nat) (sp:Nat→Bool) (hd:Bool),DataW.TrodAll enc P W' b sp hd f.resultTypes.toList ((Value.bool true).resultList f.resultTypes.size) (s.fn H ds).results []:=by
  intro b sp hd;rw[hres,hfn];exact trodAll_mk1 (shut_bool htb true)
 have hargs:∀sp:Nat→Bool,(∀x∈p,sp x.block=true)→DataW.TrodAll enc P W' 0 sp true f.params.toList args.toList (s.fn H ds).args p:=by
  intro sp hs;rw[hfn];exact Ns hl he _ _ _ _ hr hA hlt sp hs
 have hvars:∀sp:Nat→Bool,DataW.TrodVars enc P W' sp s.vars (s.fn H ds).vars []:=by
  intro sp;rw[hv0,hfn]
  rfl
 refine⟨ds,[],p,[],p,[],by simpa using hW0,by simpa using hres' _ _ _,by simpa using hargs _ hold,by simpa using hvars _,World.keptBut_mono (fun x hx=>⟨hx,Or.inr (by simpa using hx)⟩) (Below.frame he (· ∈ p)),fun _=>?_⟩
 refine⟨?_,_,_,[]++p,⟨[]++p,[],trodAll_append (by simpa using hargs _ (fun _ _=>rfl)) (by simpa using hres' _ _ _),by simpa using hvars _,by simp,?_,?_⟩,?_⟩
 ·intro j t r h1 h2
  rw[hres]at h1;obtain⟨rfl,rfl⟩:j=0∧t=tb:=by
   rcases j with _|j
   ·simp at h1;exact⟨rfl,h1.symm⟩
   ·simp at h1
  rw[hres]at h2;simp[Value.resultList]at h2;subst h2;exact okWide_bool_mk htb true
 ·intro b off hp
  have hin:MemPlace.cell b off∈p:=by simpa using hp
  rw[Below.frozen he (hlt _ hin)];exact hz b off hin
 ·intro ha
  simpa using hn ha
 ·intro x hx _
  simpa using hx
end
