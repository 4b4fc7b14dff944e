/-
  Part ZHeldF.
-/
import Derived.Test.YtkaefdmhlmlhbaaGreatZViP
set_option maxRecDepth 100000
set_option maxHeartbeats 16000000
set_option linter.unusedVariables false
set_option linter.unusedSimpArgs false
namespace Go.Proofs.YtkaefdmhlmlhbaaGreat
open Go.RowKit
open _root_.List renaming getElem_cons_succ→Ab,getElem_cons_zero→Aa,getElem_toArray→Ac,mem_singleton→Ek,setIfInBounds_toArray→A7,set_cons_succ→Ae,set_cons_zero→Ad
open Region renaming ready→Jc,wanted→Bs
open Act renaming put→Ap
section
variable {col:Nat→Nat}{w:World}{v:SV}{s:PS}{p K:Nat}{k1 k2 k5 key:Int}
section
variable {P:Program} {ops:Array Oper} {Q:Exit→Act→World→Prop} {md:Region.Mode} {S:World→Prop} {f:Nat}
def Gc (P:Program)(md:Region.Mode)(ops:Array Oper)(Q:Exit→Act→World→Prop)(S:World→Prop)(f:Nat):Nat→Array Bool→Act→World→Prop
 |0,listed,a,w=>Jc md ops listed=[]∧Q .normal a w
 |fuel+1,listed,a,w=>(Jc md ops listed=[]→Q .normal a w)∧
  ∀i∈Jc md ops listed,wpOp P ops Q i (fun a' w'=>((listed.setIfInBounds i true).getD f true=false→S w')∧Gc P md ops Q S f fuel (listed.setIfInBounds i true) a' w') a w
theorem Gc.any:∀(fuel:Nat) (listed:Array Bool) (a:Act) (w:World),Gc P md ops Q S f fuel listed a w→wpAny P md ops Q fuel listed a w
 |0,_,_,_,h=>h
 |fuel+1,_,_,_,h=>⟨h.1,fun i hi=>wpOp_mono (fun a' w' h'=>Gc.any fuel _ a' w' h'.2) (h.2 i hi)⟩
def Lr (md:Region.Mode)(ops:Array Oper)(f i:Nat):Bool:=
 match ops[f]? with
 |some o=>o.after.toList.any fun e=>Region.binds md e&&e.on==i
 |none=>false
theorem dK {i:Nat}(h:Lr md ops f i=true):∃o,ops[f]? = some o∧∃e∈o.after,Region.binds md e=true∧e.on=i:=by
 unfold Lr at h;cases ho:ops[f]? with
 |none=>rw[ho]at h;cases h
 |some o=>
  rw[ho]at h;simp only[List.any_eq_true,Bool.and_eq_true,beq_iff_eq]at h;obtain⟨e,he,hb,hi⟩:=h;exact⟨o,rfl,e,by simpa using he,hb,hi⟩
theorem Rx {i:Nat}{oi:Oper}{v:Value}{T:World→Prop}(hi:ops[i]? = some oi)(hsel:∀(j:Nat) (o:Oper) cs b,ops[j]? = some o→o.op≠.select cs b)
 (hQ:∀c a w,Q (.panic c) (a.put oi.dst v) w→Q (.panic c) a w) (hfi:i≠f) (hc:(∀w,T w)∨((∀w,S w→T w)∧Lr md ops f i=true)):
 ∀(fuel:Nat) (listed:Array Bool) (a:Act) (w:World),
  (∀j oj,ops[j]? = some oj→j≠i→listed.getD j true=false→(∀e∈oj.after,Region.binds md e=true→e.on≠i)→oi.apart ops oj=true)→
  i∈Jc md ops listed→YieldsIf P ops T oi v a→T w→((∀w,T w)∨listed.getD f true=false)→(listed.getD f true=false→S w)→
  Gc P md ops Q S f fuel (listed.setIfInBounds i true) (a.put oi.dst v) w→Gc P md ops Q S f (fuel+1) listed a w:=by
 intro fuel
 induction fuel with
 |zero=>
  intro listed a w _ hr hy hT hl hS H;refine⟨fun h=>(by rw[h]at hr;cases hr),fun j hj=>?_⟩
  by_cases hji:j=i
  ·exact I107
  ·have:=ready_mono hj hji
   rw[H.1]at this;cases this
 |succ fuel ih=>
  intro listed a w hfree hr hy hT hl hS H;refine⟨fun h=>(by rw[h]at hr;cases hr),fun j hj=>?_⟩
  by_cases hji:j=i
  ·exact I107
  ·have h1:=H.2 j (ready_mono hj hji)
   obtain⟨hjun,oj,hoj,hall⟩:=mem_ready.1 hj;have hnot:∀e∈oj.after,Region.binds md e=true→e.on≠i:=fun e he hb heq=>by
    have h1:=hall e he hb;have h0:=(mem_ready.1 hr).1;rw[heq]at h1;rcases Nat.lt_or_ge i listed.size with h'|h'
    ·simp[h']at h0 h1;rw[h0]at h1;cases h1
    ·simp[Array.getElem?_eq_none h']at h1
   have h2:=wpOp_putIf hoj (hfree j oj hoj hji hjun hnot) (fun cs b=>hsel i oi cs b hi) (fun cs b=>hsel j oj cs b hoj) hQ hy h1
   have hfree':∀k ok,ops[k]? = some ok→k≠i→(listed.setIfInBounds j true).getD k true=false→
    (∀e∈ok.after,Region.binds md e=true→e.on≠i)→oi.apart ops ok=true:=fun k ok hk hki hun hno=>by
    refine hfree k ok hk hki ?_ hno
    by_cases hjk:j=k
    ·subst hjk;exact hjun
    ·rw[getD_set_ne true hjk]at hun;exact hun
   have hl':(∀w,T w)∨(listed.setIfInBounds j true).getD f true=false:=by
    rcases hc with h|⟨_,hw⟩
    ·exact .inl h
    ·rcases hl with h|h
     ·exact .inl h
     ·refine .inr ?_
      have hjf:j≠f:=fun e=>by
       obtain⟨o,ho,e',he,hb,hi'⟩:=dK hw;rw[←e,hoj]at ho;injection ho with ho;subst ho;exact hnot e' he hb hi'
      rw[getD_set_ne true hjf];exact h
   refine wpOp_mono (fun a' w' h3=>?_) h2
   obtain⟨hy',hS',hW'⟩:=h3;have hSj:(listed.setIfInBounds j true).getD f true=false→S w':=fun h=>hS' (by rw[Array.setIfInBounds_comm _ _ (Ne.symm hji),getD_set_ne true hfi];exact h)
   have hT':T w':=by
    rcases hc with h|⟨h,_⟩
    ·exact h w'
    ·rcases hl' with h'|h'
     ·exact h' w'
     ·exact h w' (hSj h')
   refine⟨hSj,ih (listed.setIfInBounds j true) a' w' hfree' (ready_mono hr (Ne.symm hji)) hy' hT' hl' hSj ?_⟩
   rw[Array.setIfInBounds_comm _ _ hji];exact hW'
theorem Fm {i:Nat}{oi:Oper}{v:Value}{fuel:Nat}{listed:Array Bool}{a:Act}{w:World}(hi:ops[i]? = some oi)
 (hs:Region.noSelect ops=true) (hf:Region.free md ops listed i=true) (hr:(Jc md ops listed).contains i=true) (hw:Lr md ops f i=true) (hfi:i≠f) (hl:listed.getD f true=false)
 (hQ:∀c a w,Q (.panic c) (a.put oi.dst v) w→Q (.panic c) a w) (hy:YieldsIf P ops S oi v a) (hS:S w)
 (h:Gc P md ops Q S f fuel (listed.setIfInBounds i true) (a.put oi.dst v) w):Gc P md ops Q S f (fuel+1) listed a w:=
 Rx hi (Region.noSelect_spec hs) hQ hfi (.inr ⟨fun _ h=>h,hw⟩) fuel listed a w (Region.free_spec hi hf) (by simpa using hr) hy hS (.inr hl) (fun _=>hS) h
theorem Bg {i:Nat}{oi:Oper}{v:Value}{fuel:Nat}{listed:Array Bool}{a:Act}{w:World}(hi:ops[i]? = some oi)
 (hs:Region.noSelect ops=true) (hf:Region.free md ops listed i=true) (hr:(Jc md ops listed).contains i=true) (hfi:i≠f)
 (hQ:∀c a w,Q (.panic c) (a.put oi.dst v) w→Q (.panic c) a w) (hy:YieldsIf P ops (fun _=>True) oi v a) (hS:listed.getD f true=false→S w)
 (h:Gc P md ops Q S f fuel (listed.setIfInBounds i true) (a.put oi.dst v) w):Gc P md ops Q S f (fuel+1) listed a w:=
 Rx (T:=fun _=>True) hi (Region.noSelect_spec hs) hQ hfi (.inl fun _=>trivial) fuel listed a w (Region.free_spec hi hf) (by simpa using hr) hy trivial (.inl fun _=>trivial) hS h
theorem Hu {i:Nat}{o:Oper}{fuel:Nat}{listed:Array Bool}{a:Act}{w:World}(hr:Jc md ops listed=[i])(ho:ops[i]? = some o)
 (h:∀K':Act→World→Prop,Shut (∀a w,S w→(S w→Gc P md ops Q S f fuel (listed.setIfInBounds i true) a w)→K' a w)→if Bs o (yielded ops a.tmps)=true then Oper.wp P o a w K' Q else K' (a.put o.dst undef) w):
 Gc P md ops Q S f (fuel+1) listed a w:=by
 refine⟨fun h0=>absurd (hr.symm.trans h0) (by simp),fun j hj=>?_⟩
 rw[hr,Ek]at hj;subst hj;exact wpOp_step ho fun K' hK=>h K' fun a w hS hW=>hK a w ⟨fun _=>hS,hW hS⟩
theorem Fn {i:Nat}{o:Oper}{fuel:Nat}{listed:Array Bool}{a:Act}{w:World}(hr:Jc md ops listed=[i])(ho:ops[i]? = some o)(hl:(listed.setIfInBounds i true).getD f true=true)
 (h:∀K':Act→World→Prop,Shut (∀a w,Gc P md ops Q S f fuel (listed.setIfInBounds i true) a w→K' a w)→if Bs o (yielded ops a.tmps)=true then Oper.wp P o a w K' Q else K' (a.put o.dst undef) w):
 Gc P md ops Q S f (fuel+1) listed a w:=by
 refine⟨fun h0=>absurd (hr.symm.trans h0) (by simp),fun j hj=>?_⟩
 rw[hr,Ek]at hj;subst hj;exact wpOp_step ho fun K' hK=>h K' fun a w hW=>hK a w ⟨fun e=>(by rw[hl]at e;cases e),hW⟩
theorem Lq {listed:Array Bool}{a:Act}{w:World}(hr:Jc md ops listed=[])(h:Q .normal a w):∀fuel,Gc P md ops Q S f fuel listed a w
 |0=>⟨hr,h⟩
 |_+1=>⟨fun _=>h,by rw[hr];simp⟩
theorem Hp {id:Nat}{a:Act}{w:World}(f:Nat)(hm:P.follows .mixedOrders=true)(hS:S w.drew)
 (h:S w.drew→Gc P .any ops Q S f ops.size (Array.replicate ops.size false) a w.drew):(Code.region id ops true).wp P Q a w:=
 wp_region_any hm (Gc.any _ _ _ _ (h hS))
end
theorem sF (h:Di w col p v s)(hl:s.tx.length≤200)(hq:s.told.length≤500000000000)(hb:s.past.length≤30):
 Calls Tryz.prog 66 #[.pointer (some ⟨p,0,none⟩),.agg #[.int .i64 k1,.int .i64 k2,.int .i64 0,.int .i64 117,.int .i64 k5]] w fun e w'=>e=.returned (.tuple #[])∧Bx p w col (Jx s) w':=by
 have N0:=trivial;exact K27
theorem mF (h:Di w col p v s)(hl:s.tx.length≤200)(hq:s.told.length≤500000000000)(hf:s.first.length≤200)(hb:s.past.length≤30):
 Calls Tryz.prog 66 #[.pointer (some ⟨p,0,none⟩),.agg #[.int .i64 k1,.int .i64 k2,.int .i64 0,.int .i64 85,.int .i64 k5]] w fun e w'=>e=.returned (.tuple #[])∧Bx p w col (Ln s) w':=by
 have N1:=trivial;exact K27
theorem wP (h:Di w col p v s)(hl:s.tx.length≤200)(hq:s.told.length≤500000000000){K:Nat}(wl:∀x∈s.tx,(Lit.int .i64 x).wf=true)(hb:s.past.length≤30)(hz:∀c d,Nn s.tx s.rl s.at_ s.fk s.fa c=some d→d.tx.length≤4096)
 (hD:∀c ks d,s.last=some (c,ks)→Nn s.tx s.rl s.at_ s.fk s.fa (Ck c k1)=some d→(Pi s (Ck c k1) d).mode≠0→tD K 500000000000 (Pi s (Ck c k1) d)) (hks:∀c ks,s.last=some (c,ks)→(∀k∈ks,k≠27)∧ks.length≤2000000) (hK:K≤2000000):
 Calls Tryz.prog 66 #[.pointer (some ⟨p,0,none⟩),.agg #[.int .i64 k1,.int .i64 k2,.int .i64 0,.int .i64 46,.int .i64 k5]] w fun e w'=>e=.returned (.tuple #[])∧Bx p w col (Ge s k1) w':=by
 have N2:=trivial;exact K27
theorem J0v {k1 k2 k3 k4 k5:Int}(h:Di w col p v s)(hl:s.tx.length≤200)(hq:s.told.length≤500000000000)(wl:∀x∈s.tx,(Lit.int .i64 x).wf=true)(hb:s.past.length≤30)(hz:∀c d,Nn s.tx s.rl s.at_ s.fk s.fa c=some d→d.tx.length≤4096)(h3:(k3 !=0)=true):
 Calls Tryz.prog 66 #[.pointer (some ⟨p,0,none⟩),.agg #[.int .i64 k1,.int .i64 k2,.int .i64 k3,.int .i64 k4,.int .i64 k5]] w fun e w'=>e=.returned (.tuple #[])∧Bx p w col (doS s ⟨k1,k2,k3,k4,k5⟩) w':=by
 have N3:=trivial;exact K27
theorem sE {k1 k2 k4 k5:Int}(h:Di w col p v s)(hl:s.tx.length≤200)(hq:s.told.length≤500000000000)(wl:∀x∈s.tx,(Lit.int .i64 x).wf=true)(hb:s.past.length≤30)(hz:∀c d,Nn s.tx s.rl s.at_ s.fk s.fa c=some d→d.tx.length≤4096)(v117:(k4==117)=false)(v85:(k4==85)=false)(v46:(k4==46)=false)(v107:(k4==107)=false)(v106:(k4==106)=false)(v71:(k4==71)=false)(v110:(k4==110)=false)(v78:(k4==78)=false)(v47:(k4==47)=false)(v63:(k4==63)=false):
 Calls Tryz.prog 66 #[.pointer (some ⟨p,0,none⟩),.agg #[.int .i64 k1,.int .i64 k2,.int .i64 0,.int .i64 k4,.int .i64 k5]] w fun e w'=>e=.returned (.tuple #[])∧Bx p w col (doS s ⟨k1,k2,0,k4,k5⟩) w':=by
 have N4:=trivial;exact K27
theorem mD (h:Di w col p v s)(hl:s.tx.length≤200)(hq:s.told.length≤500000000000):
 Calls Tryz.prog 66 #[.pointer (some ⟨p,0,none⟩),.agg #[.int .i64 k1,.int .i64 k2,.int .i64 0,.int .i64 47,.int .i64 k5]] w fun e w'=>e=.returned (.tuple #[])∧Bx p w col (jB s true) w':=by
 have N0:=trivial;exact K10
theorem mE (h:Di w col p v s)(hl:s.tx.length≤200)(hq:s.told.length≤500000000000):
 Calls Tryz.prog 66 #[.pointer (some ⟨p,0,none⟩),.agg #[.int .i64 k1,.int .i64 k2,.int .i64 0,.int .i64 63,.int .i64 k5]] w fun e w'=>e=.returned (.tuple #[])∧Bx p w col (jB s false) w':=by
 have N1:=trivial;exact K10
theorem Bk.pop {b m c:Nat}{A:Option Addr}{l:List Int}(h:Bk w b (.slice A (m+1) c) l):Bk w b (.slice A m c) l.dropLast:=by
 obtain⟨A',n',c',e,h1,h2,h3⟩:=h;injection e with e1 e2 e3;subst e1 e2 e3;have hl:=h1.ints.len;have h4:=Bd.pop (k:=m) h1 (by omega) (by omega)
 rw[←List.map_take]at h4;refine⟨A,m,c,rfl,?_,h2,by omega⟩
 rw[List.dropLast_eq_take,hl];exact h4
noncomputable def Qd (s:PS)(key:Int):PS:=
 if key=13∨key=10 then Gp { s with mode:=0 } s.ask s.older s.older
 else if key=27 then { s with mode:=0 }
 else if key=8∨key=127 then(if s.ask=[]then { s with mode:=0 }else { s with ask:=s.ask.dropLast })
 else if key<32∨s.ask.length=200 then G8 s
 else { s with ask:=s.ask++[key] }
theorem nA (h:Di w col p v s)(hk:key=13∨key=10)(hl:s.tx.length≤200)(hq:s.told.length≤500000000000)(hlen:∀k,k<s.hi.lines.length→(toL s.hi s.tx k).length≤4096):
 Calls Tryz.prog 60 #[.pointer (some ⟨p,0,none⟩),.int .i64 key] w fun e w'=>e=.returned (.tuple #[])∧Bx p w col (Gp { s with mode:=0 } s.ask s.older s.older) w':=by
 have hb:=h.ses.blk;have d2:w.cell? ⟨p,2,none⟩=some (.int .i64 s.mode):=hb.cell 2;have f2:=hb.frozen 2;have HM:=A6 (h.chain ((Dl.start (An.refl w) h.ses.blk).set 2 (.int .i64 0)) v { s with mode:=0 } (by kernel_rfl) (fun w'' _ ht hd=>⟨hd.1,hd.2,hd.3,hd.4,hd.5,hd.6,hd.7,hd.8⟩))
 clear h hb;rcases hk with rfl|rfl
 all_goals
  go_enter Tryz.func60,Tryz.ntmps60
  go_upto_region 3 with fail
  clear d2 f2;generalize w.setCell ⟨p,2,none⟩ (.int .i64 0)=wa at*;have HT:=A6 HM.out.2;have hm0:=HM.out.1.ext (An.drew wa);clear HM;have hE0:=An.drew wa;have HE0:=A6 ((⟨hE0.alt _,fun _ _ h=>h,fun _ _ h=>h⟩:Li wa col wa.drew col))
  clear hE0;obtain⟨A9,n9,k9,hv9,ho9,hc9,_⟩:=hm0.ses.dat.here.ask;have HA9:=A6 (And.intro ho9.ints hc9);have hbl:=hm0.ses.blk;have HC:Hid (∀wq,An wa.drew wq→Calls Tryz.prog 53 #[.agg #[.pointer v.tr]] wq fun e w'=>∃u,e=.returned u∧(∃A k,u=.slice A s.tx.length k∧Av w' wq.heap.size A s.tx.length k s.tx)∧An wq w'):=
   A6 fun wq he=>Gj (hm0.ext he).ses.dat.here.tr (by show s.tx.length≤4096;omega)
  have HF:Hid (∀wq A k,An wa.drew wq→Av wq 0 A s.tx.length k s.tx→Calls Tryz.prog 81 #[.agg (Kx v s.hi),.slice A s.tx.length k,.slice A9 n9 k9,.bool s.older] wq fun e w'=>∃u,e=.returned u∧(∃U L m z x,u=.tuple #[U,.slice L m z,.int .i64 x]∧
   Calls Tryz.prog 80 #[.pointer (some ⟨p,0,none⟩),U,.slice L m z,.int .i64 x] w' fun e' w''=>e'=.returned (.tuple #[])∧Bx p w col (Gp { s with mode:=0 } s.ask s.older s.older) w'')):=A6 fun wq A k he hA=>by
   have hm:=hm0.ext he;refine(iL hm.ses.dat.here.his.v hA.ints (Bd.nocap' hA) (HA9.out.1.ext he) HA9.out.2).mono ?_
   rintro e w' ⟨he',hg⟩;obtain⟨U,L,m,z,x,rfl,hc⟩:=Qk (keep:=s.older) hm he' (show s.told.length≤1000000000000 by omega) hlen (hg.imp (fun⟨k,h1,h2,u,L,m,z,h3,h4,h5,_⟩=>⟨k,h1,h2,u,L,m,z,h3,h4,h5⟩) id)
   exact⟨_,rfl,U,L,m,z,x,rfl,hc.mono fun e w'' ⟨h1,h2⟩=>⟨h1,Bx.trans HT.out (Bx.trans HE0.out (Bx.trans ⟨he.alt _,fun _ _ h=>h,fun _ _ h=>h⟩ h2))⟩⟩
  clear hm0 ho9 hc9;refine Hp (S:=fun w'=>An wa.drew w') 19 (by kernel_rfl) (An.refl _) (fun hS=>?_)
  generalize wa.drew=cur at*;refine Bg (i:=0) (v:=(.pointer (some ⟨p,0,none⟩))) rfl (by kernel_rfl) (by kernel_rfl) (by kernel_rfl) (by decide) (fun _ _ _ h=>h) (Or.inl ⟨by rfl,by(intro w' hSw;go_simp)⟩) (fun hl=>by first|exact hS|exact absurd hl (by decide)) ?_
  try simp only[Ac,Aa,Ab,Ap,A7,Ad,Ae]
  refine Bg (i:=1) (v:=(.pointer (some ⟨p,0,none⟩))) rfl (by kernel_rfl) (by kernel_rfl) (by kernel_rfl) (by decide) (fun _ _ _ h=>h) (Or.inl ⟨by rfl,by(intro w' hSw;go_simp)⟩) (fun hl=>by first|exact hS|exact absurd hl (by decide)) ?_
  try simp only[Ac,Aa,Ab,Ap,A7,Ad,Ae]
  refine Bg (i:=2) (v:=(.pointer (some ⟨p,0,none⟩))) rfl (by kernel_rfl) (by kernel_rfl) (by kernel_rfl) (by decide) (fun _ _ _ h=>h) (Or.inl ⟨by rfl,by(intro w' hSw;go_simp)⟩) (fun hl=>by first|exact hS|exact absurd hl (by decide)) ?_
  try simp only[Ac,Aa,Ab,Ap,A7,Ad,Ae]
  refine Bg (i:=3) (v:=(.pointer (some ⟨p,37,none⟩))) rfl (by kernel_rfl) (by kernel_rfl) (by kernel_rfl) (by decide) (fun _ _ _ h=>h) (Or.inl ⟨by rfl,by(intro w' hSw;go_simp)⟩) (fun hl=>by first|exact hS|exact absurd hl (by decide)) ?_
  try simp only[Ac,Aa,Ab,Ap,A7,Ad,Ae]
  refine Fm (i:=4) (v:=(.agg (Kx v s.hi))) rfl (by kernel_rfl) (by kernel_rfl) (by kernel_rfl) (by kernel_rfl) (by decide) (by kernel_rfl) (fun _ _ _ h=>h) (Or.inl ⟨by rfl,by(intro w' hSw;exact Dh 94 (.tmp 28) rfl p 37 6 rfl (hbl.ext hSw) (by kernel_rfl) Tryz.underlying94 rfl (by kernel_rfl))⟩) hS ?_
  try simp only[Ac,Aa,Ab,Ap,A7,Ad,Ae]
  refine Bg (i:=5) (v:=(.pointer (some ⟨p,0,none⟩))) rfl (by kernel_rfl) (by kernel_rfl) (by kernel_rfl) (by decide) (fun _ _ _ h=>h) (Or.inl ⟨by rfl,by(intro w' hSw;go_simp)⟩) (fun hl=>by first|exact hS|exact absurd hl (by decide)) ?_
  try simp only[Ac,Aa,Ab,Ap,A7,Ad,Ae]
  refine Bg (i:=6) (v:=(.pointer (some ⟨p,0,none⟩))) rfl (by kernel_rfl) (by kernel_rfl) (by kernel_rfl) (by decide) (fun _ _ _ h=>h) (Or.inl ⟨by rfl,by(intro w' hSw;go_simp)⟩) (fun hl=>by first|exact hS|exact absurd hl (by decide)) ?_
  try simp only[Ac,Aa,Ab,Ap,A7,Ad,Ae]
  refine Bg (i:=7) (v:=(.pointer (some ⟨p,0,none⟩))) rfl (by kernel_rfl) (by kernel_rfl) (by kernel_rfl) (by decide) (fun _ _ _ h=>h) (Or.inl ⟨by rfl,by(intro w' hSw;go_simp)⟩) (fun hl=>by first|exact hS|exact absurd hl (by decide)) ?_
  try simp only[Ac,Aa,Ab,Ap,A7,Ad,Ae]
  refine Bg (i:=8) (v:=(.pointer (some ⟨p,0,none⟩))) rfl (by kernel_rfl) (by kernel_rfl) (by kernel_rfl) (by decide) (fun _ _ _ h=>h) (Or.inl ⟨by rfl,by(intro w' hSw;go_simp)⟩) (fun hl=>by first|exact hS|exact absurd hl (by decide)) ?_
  try simp only[Ac,Aa,Ab,Ap,A7,Ad,Ae]
  refine Bg (i:=11) (v:=(.pointer (some ⟨p,0,none⟩))) rfl (by kernel_rfl) (by kernel_rfl) (by kernel_rfl) (by decide) (fun _ _ _ h=>h) (Or.inl ⟨by rfl,by(intro w' hSw;go_simp)⟩) (fun hl=>by first|exact hS|exact absurd hl (by decide)) ?_
  try simp only[Ac,Aa,Ab,Ap,A7,Ad,Ae]
  refine Bg (i:=12) (v:=(.pointer (some ⟨p,0,none⟩))) rfl (by kernel_rfl) (by kernel_rfl) (by kernel_rfl) (by decide) (fun _ _ _ h=>h) (Or.inl ⟨by rfl,by(intro w' hSw;go_simp)⟩) (fun hl=>by first|exact hS|exact absurd hl (by decide)) ?_
  try simp only[Ac,Aa,Ab,Ap,A7,Ad,Ae]
  refine Bg (i:=13) (v:=(.pointer (some ⟨p,48,none⟩))) rfl (by kernel_rfl) (by kernel_rfl) (by kernel_rfl) (by decide) (fun _ _ _ h=>h) (Or.inl ⟨by rfl,by(intro w' hSw;go_simp)⟩) (fun hl=>by first|exact hS|exact absurd hl (by decide)) ?_
  try simp only[Ac,Aa,Ab,Ap,A7,Ad,Ae]
  refine Fm (i:=14) (v:=(.slice A9 n9 k9)) rfl (by kernel_rfl) (by kernel_rfl) (by kernel_rfl) (by kernel_rfl) (by decide) (by kernel_rfl) (fun _ _ _ h=>h) (Or.inl ⟨by rfl,by(intro w' hSw;have e0:w'.cell? ⟨p,48,none⟩=some (.slice A9 n9 k9):=((hbl.ext hSw).cell 48).trans (congrArg some hv9);go_simp)⟩) hS ?_
  try simp only[Ac,Aa,Ab,Ap,A7,Ad,Ae]
  refine Bg (i:=15) (v:=(.pointer (some ⟨p,0,none⟩))) rfl (by kernel_rfl) (by kernel_rfl) (by kernel_rfl) (by decide) (fun _ _ _ h=>h) (Or.inl ⟨by rfl,by(intro w' hSw;go_simp)⟩) (fun hl=>by first|exact hS|exact absurd hl (by decide)) ?_
  try simp only[Ac,Aa,Ab,Ap,A7,Ad,Ae]
  refine Bg (i:=16) (v:=(.pointer (some ⟨p,0,none⟩))) rfl (by kernel_rfl) (by kernel_rfl) (by kernel_rfl) (by decide) (fun _ _ _ h=>h) (Or.inl ⟨by rfl,by(intro w' hSw;go_simp)⟩) (fun hl=>by first|exact hS|exact absurd hl (by decide)) ?_
  try simp only[Ac,Aa,Ab,Ap,A7,Ad,Ae]
  refine Bg (i:=17) (v:=(.pointer (some ⟨p,49,none⟩))) rfl (by kernel_rfl) (by kernel_rfl) (by kernel_rfl) (by decide) (fun _ _ _ h=>h) (Or.inl ⟨by rfl,by(intro w' hSw;go_simp)⟩) (fun hl=>by first|exact hS|exact absurd hl (by decide)) ?_
  try simp only[Ac,Aa,Ab,Ap,A7,Ad,Ae]
  refine Fm (i:=18) (v:=(.bool s.older)) rfl (by kernel_rfl) (by kernel_rfl) (by kernel_rfl) (by kernel_rfl) (by decide) (by kernel_rfl) (fun _ _ _ h=>h) (Or.inl ⟨by rfl,by(intro w' hSw;have e0:w'.cell? ⟨p,49,none⟩=some (.bool s.older):=(hbl.ext hSw).cell 49;go_simp)⟩) hS ?_
  try simp only[Ac,Aa,Ab,Ap,A7,Ad,Ae]
  have d0:cur.cell? ⟨p,0,none⟩=some (.pointer v.tr):=hbl.cell 0;refine Hu (i:=9) (by decide +kernel) rfl (fun K hK=>?_)
  go_simp
  refine hK.out _ _ hS (fun hS=>?_)
  clear hK K d0
  try simp only[Ac,Aa,Ab,Ap,A7,Ad,Ae]
  refine Hu (i:=10) (by decide +kernel) rfl (fun K hK=>?_)
  refine Cg rfl 53 #[.agg #[.pointer v.tr]] rfl (by kernel_rfl) (fun u w'=>∃A k,u=.slice A s.tx.length k∧Av w' cur.heap.size A s.tx.length k s.tx) (HC.out _ hS) ?_
  rintro u w2 ⟨A,k,rfl,hA⟩ hE;replace hA:=hA.lower (Nat.zero_le _);refine hK.out _ _ hE (fun hS=>?_)
  clear hK K hE
  try simp only[Ac,Aa,Ab,Ap,A7,Ad,Ae]
  refine Fn (i:=19) (by decide +kernel) rfl (by decide +kernel) (fun K hK=>?_)
  refine Cf rfl 81 #[.agg (Kx v s.hi),.slice A s.tx.length k,.slice A9 n9 k9,.bool s.older] rfl (by kernel_rfl) _ (HF.out _ A k hS hA) ?_
  rintro u w3 ⟨U,L,m,z,x,rfl,hmv⟩;refine hK.out _ _ ?_
  clear hK K hS hA
  try simp only[Ac,Aa,Ab,Ap,A7,Ad,Ae]
  refine Bg (i:=20) (v:=U) rfl (by kernel_rfl) (by kernel_rfl) (by kernel_rfl) (by decide) (fun _ _ _ h=>h) (Or.inl ⟨by rfl,by(intro w' hSw;go_simp)⟩) (fun hl=>by first|exact hS|exact absurd hl (by decide)) ?_
  try simp only[Ac,Aa,Ab,Ap,A7,Ad,Ae]
  refine Bg (i:=21) (v:=(.slice L m z)) rfl (by kernel_rfl) (by kernel_rfl) (by kernel_rfl) (by decide) (fun _ _ _ h=>h) (Or.inl ⟨by rfl,by(intro w' hSw;go_simp)⟩) (fun hl=>by first|exact hS|exact absurd hl (by decide)) ?_
  try simp only[Ac,Aa,Ab,Ap,A7,Ad,Ae]
  refine Bg (i:=22) (v:=(.int .i64 x)) rfl (by kernel_rfl) (by kernel_rfl) (by kernel_rfl) (by decide) (fun _ _ _ h=>h) (Or.inl ⟨by rfl,by(intro w' hSw;go_simp)⟩) (fun hl=>by first|exact hS|exact absurd hl (by decide)) ?_
  try simp only[Ac,Aa,Ab,Ap,A7,Ad,Ae]
  refine Fn (i:=23) (by decide +kernel) rfl (by decide +kernel) (fun K hK=>?_)
  refine Cf rfl 80 #[.pointer (some ⟨p,0,none⟩),U,.slice L m z,.int .i64 x] rfl (by kernel_rfl) (fun u w'=>u=.tuple #[]∧Bx p w col (Gp { s with mode:=0 } s.ask s.older s.older) w') (hmv.mono fun e w' ⟨h1,h2⟩=>⟨_,h1,rfl,h2⟩) ?_
  rintro u w4 ⟨rfl,hfin⟩;have HFin:=A6 hfin;clear hfin hmv;refine hK.out _ _ ?_
  clear hK K;refine Lq (by kernel_rfl) ?_ _
  go_wp2_with fail
  go_end0
  exact⟨rfl,HFin.out⟩
theorem wZ (h:Di w col p v s)(hk:key=27):
 Calls Tryz.prog 60 #[.pointer (some ⟨p,0,none⟩),.int .i64 key] w fun e w'=>e=.returned (.tuple #[])∧Bx p w col ({ s with mode:=0 }) w':=by
 have hb:=h.ses.blk;have d2:w.cell? ⟨p,2,none⟩=some (.int .i64 s.mode):=hb.cell 2;have f2:=hb.frozen 2;have HM:=A6 (h.chain ((Dl.start (An.refl w) h.ses.blk).set 2 (.int .i64 0)) v { s with mode:=0 } (by kernel_rfl) (fun w'' _ ht hd=>⟨hd.1,hd.2,hd.3,hd.4,hd.5,hd.6,hd.7,hd.8⟩))
 clear h hb;subst hk;go_enter Tryz.func60,Tryz.ntmps60
 go_wp2_with fail
 go_end0
 exact⟨rfl,_,_,HM.out⟩
theorem sW (h:Di w col p v s)(hk:key=8∨key=127)(ha:s.ask=[]):
 Calls Tryz.prog 60 #[.pointer (some ⟨p,0,none⟩),.int .i64 key] w fun e w'=>e=.returned (.tuple #[])∧Bx p w col ({ s with mode:=0 }) w':=by
 have hb:=h.ses.blk;have d2:w.cell? ⟨p,2,none⟩=some (.int .i64 s.mode):=hb.cell 2;have f2:=hb.frozen 2;have HM:=A6 (h.chain ((Dl.start (An.refl w) h.ses.blk).set 2 (.int .i64 0)) v { s with mode:=0 } (by kernel_rfl) (fun w'' _ ht hd=>⟨hd.1,hd.2,hd.3,hd.4,hd.5,hd.6,hd.7,hd.8⟩))
 obtain⟨A9,n9,k9,hv9,ho9,hc9,_⟩:=h.ses.dat.here.ask;have hn:=ho9.ints.len;rw[ha]at hn;have hn:n9=0:=by simpa using hn.symm
 subst hn;have d48:w.cell? ⟨p,48,none⟩=some (.slice A9 0 k9):=(hb.cell 48).trans (congrArg some hv9);clear h hb ho9 hc9 hv9;rcases hk with rfl|rfl
 all_goals
  go_enter Tryz.func60,Tryz.ntmps60
  go_wp2_with fail
  refine bodyPost_ret (results_none rfl _ _ _) rfl ⟨rfl,_,_,HM.out⟩
theorem sY (h:Di w col p v s)(hk:key=8∨key=127)(ha:s.ask≠[]):
 Calls Tryz.prog 60 #[.pointer (some ⟨p,0,none⟩),.int .i64 key] w fun e w'=>e=.returned (.tuple #[])∧Bx p w col ({ s with ask:=s.ask.dropLast }) w':=by
 have hb:=h.ses.blk;obtain⟨A9,n9,k9,hv9,ho9,hc9,hz9⟩:=h.ses.dat.here.ask;have hn:=ho9.ints.len;obtain⟨m,rfl⟩:∃m,n9=m+1:=⟨n9-1,by have:=List.length_pos_iff.2 ha;omega⟩
 have hnc:=ho9.ints.ncap;have d48:w.cell? ⟨p,48,none⟩=some (.slice A9 (m+1) k9):=(hb.cell 48).trans (congrArg some hv9);have cc:=Dl.start (An.drew w) (hb.ext (An.drew w));have hnz:((((m+1:Nat):Int))==0)=false:=by simp;omega
 have H:=A6 h;have HV:=A6 hv9;clear h hb ho9 hc9 hv9;rcases hk with rfl|rfl
 all_goals
  go_enter Tryz.func60,Tryz.ntmps60
  go_upto_region 9 with fail
  have d48':w.drew.cell? ⟨p,48,none⟩=some (.slice A9 (m+1) k9):=An.cell (An.drew w) d48;have f48:=cc.blk.frozen 48;have hm1:((((m+1:Nat):Int))-1)=(m:Int):=by omega
  refine Hp (S:=fun w'=>w'=w.drew) 11 (by kernel_rfl) rfl (fun hS=>?_)
  generalize w.drew=cur at*;refine Bg (i:=0) (v:=(.pointer (some ⟨p,0,none⟩))) rfl (by kernel_rfl) (by kernel_rfl) (by kernel_rfl) (by decide) (fun _ _ _ h=>h) (Or.inl ⟨by rfl,by(intro w' hSw;go_simp)⟩) (fun hl=>by first|exact hS|exact absurd hl (by decide)) ?_
  try simp only[Ac,Aa,Ab,Ap,A7,Ad,Ae]
  refine Bg (i:=1) (v:=(.pointer (some ⟨p,0,none⟩))) rfl (by kernel_rfl) (by kernel_rfl) (by kernel_rfl) (by decide) (fun _ _ _ h=>h) (Or.inl ⟨by rfl,by(intro w' hSw;go_simp)⟩) (fun hl=>by first|exact hS|exact absurd hl (by decide)) ?_
  try simp only[Ac,Aa,Ab,Ap,A7,Ad,Ae]
  refine Bg (i:=2) (v:=(.pointer (some ⟨p,0,none⟩))) rfl (by kernel_rfl) (by kernel_rfl) (by kernel_rfl) (by decide) (fun _ _ _ h=>h) (Or.inl ⟨by rfl,by(intro w' hSw;go_simp)⟩) (fun hl=>by first|exact hS|exact absurd hl (by decide)) ?_
  try simp only[Ac,Aa,Ab,Ap,A7,Ad,Ae]
  refine Bg (i:=3) (v:=(.pointer (some ⟨p,48,none⟩))) rfl (by kernel_rfl) (by kernel_rfl) (by kernel_rfl) (by decide) (fun _ _ _ h=>h) (Or.inl ⟨by rfl,by(intro w' hSw;go_simp)⟩) (fun hl=>by first|exact hS|exact absurd hl (by decide)) ?_
  try simp only[Ac,Aa,Ab,Ap,A7,Ad,Ae]
  refine Fm (i:=4) (v:=(.slice A9 (m+1) k9)) rfl (by kernel_rfl) (by kernel_rfl) (by kernel_rfl) (by kernel_rfl) (by decide) (by kernel_rfl) (fun _ _ _ h=>h) (Or.inl ⟨by rfl,by(intro w' hSw;subst hSw;go_simp)⟩) hS ?_
  try simp only[Ac,Aa,Ab,Ap,A7,Ad,Ae]
  refine Bg (i:=5) (v:=(.pointer (some ⟨p,0,none⟩))) rfl (by kernel_rfl) (by kernel_rfl) (by kernel_rfl) (by decide) (fun _ _ _ h=>h) (Or.inl ⟨by rfl,by(intro w' hSw;go_simp)⟩) (fun hl=>by first|exact hS|exact absurd hl (by decide)) ?_
  try simp only[Ac,Aa,Ab,Ap,A7,Ad,Ae]
  refine Bg (i:=6) (v:=(.pointer (some ⟨p,0,none⟩))) rfl (by kernel_rfl) (by kernel_rfl) (by kernel_rfl) (by decide) (fun _ _ _ h=>h) (Or.inl ⟨by rfl,by(intro w' hSw;go_simp)⟩) (fun hl=>by first|exact hS|exact absurd hl (by decide)) ?_
  try simp only[Ac,Aa,Ab,Ap,A7,Ad,Ae]
  refine Bg (i:=7) (v:=(.pointer (some ⟨p,48,none⟩))) rfl (by kernel_rfl) (by kernel_rfl) (by kernel_rfl) (by decide) (fun _ _ _ h=>h) (Or.inl ⟨by rfl,by(intro w' hSw;go_simp)⟩) (fun hl=>by first|exact hS|exact absurd hl (by decide)) ?_
  try simp only[Ac,Aa,Ab,Ap,A7,Ad,Ae]
  refine Hu (i:=8) (by decide +kernel) rfl (fun K hK=>?_)
  go_simp
  refine hK.out _ _ rfl (fun hS=>?_)
  clear hK K
  try simp only[Ac,Aa,Ab,Ap,A7,Ad,Ae]
  refine Bg (i:=9) (v:=(.int .i64 ((m+1:Nat):Int))) rfl (by kernel_rfl) (by kernel_rfl) (by kernel_rfl) (by decide) (fun _ _ _ h=>h) (Or.inl ⟨by rfl,by(intro w' hSw;go_simp)⟩) (fun hl=>by first|exact hS|exact absurd hl (by decide)) ?_
  try simp only[Ac,Aa,Ab,Ap,A7,Ad,Ae]
  refine Bg (i:=10) (v:=(.int .i64 (m:Int))) rfl (by kernel_rfl) (by kernel_rfl) (by kernel_rfl) (by decide) (fun _ _ _ h=>h) (Or.inl ⟨by rfl,by(intro w' hSw;have hwr:IntKind.i64.wrap (m:Int)=(m:Int):=IntWalk.i64_in _ (by omega);go_simp)⟩) (fun hl=>by first|exact hS|exact absurd hl (by decide)) ?_
  try simp only[Ac,Aa,Ab,Ap,A7,Ad,Ae]
  have hmk:m≤k9:=by omega
  refine Fn (i:=11) (by decide +kernel) rfl (by decide +kernel) (fun K hK=>?_)
  go_simp
  refine hK.out _ _ ?_
  clear hK K
  try simp only[Ac,Aa,Ab,Ap,A7,Ad,Ae]
  refine Bg (i:=12) (v:=(.pointer (some ⟨p,0,none⟩))) rfl (by kernel_rfl) (by kernel_rfl) (by kernel_rfl) (by decide) (fun _ _ _ h=>h) (Or.inl ⟨by rfl,by(intro w' hSw;go_simp)⟩) (fun hl=>by first|exact hS|exact absurd hl (by decide)) ?_
  try simp only[Ac,Aa,Ab,Ap,A7,Ad,Ae]
  refine Bg (i:=13) (v:=(.pointer (some ⟨p,48,none⟩))) rfl (by kernel_rfl) (by kernel_rfl) (by kernel_rfl) (by decide) (fun _ _ _ h=>h) (Or.inl ⟨by rfl,by(intro w' hSw;go_simp)⟩) (fun hl=>by first|exact hS|exact absurd hl (by decide)) ?_
  try simp only[Ac,Aa,Ab,Ap,A7,Ad,Ae]
  refine Fn (i:=14) (by decide +kernel) rfl (by decide +kernel) (fun K hK=>?_)
  go_simp
  refine hK.out _ _ ?_
  clear hK K;have HR:=A6 (H.out.chain (cc.set 48 (.slice A9 m k9)) { v with ask:=.slice A9 m k9 } { s with ask:=s.ask.dropLast } (by kernel_rfl) (fun w'' _ ht hd=>⟨hd.1,hd.2,hd.3,hd.4,hd.5,hd.6,Bk.pop (HV.out▸hd.7),hd.8⟩))
  refine Lq (by kernel_rfl) ?_ _
  clear cc;go_wp2_with fail
  go_end0
  exact⟨rfl,_,_,HR.out⟩
theorem sX (h:Di w col p v s)(h13:(key==13)=false)(h10:(key==10)=false)(h27:(key==27)=false)(h8:(key==8)=false)(h127:(key==127)=false)(hk:key<32∨s.ask.length=200)(hq:s.told.length≤500000000000):
 Calls Tryz.prog 60 #[.pointer (some ⟨p,0,none⟩),.int .i64 key] w fun e w'=>e=.returned (.tuple #[])∧Bx p w col (G8 s) w':=by
 have hb:=h.ses.blk;obtain⟨A9,n9,k9,hv9,ho9,hc9,hz9⟩:=h.ses.dat.here.ask;have hn:=ho9.ints.len;have d48:w.cell? ⟨p,48,none⟩=some (.slice A9 n9 k9):=(hb.cell 48).trans (congrArg some hv9);have HB:=A6 (Kp h (by omega))
 rw[hn]at hk;clear h hb ho9 hc9 hz9 hv9 hn;by_cases h32:key<32
 ·have h32b:(decide (key<32))=true:=by simpa using h32
  clear hk;exact I38
 ·have h32b:(decide (key<32))=false:=by simpa using h32
  have hk:n9=200:=hk.resolve_left h32;subst hk;clear h32;exact I38
theorem xA (h:Di w col p v s)(h13:(key==13)=false)(h10:(key==10)=false)(h27:(key==27)=false)(h8:(key==8)=false)(h127:(key==127)=false)(hk:¬key<32)(hk2:s.ask.length<200):
 Calls Tryz.prog 60 #[.pointer (some ⟨p,0,none⟩),.int .i64 key] w fun e w'=>e=.returned (.tuple #[])∧Bx p w col ({ s with ask:=s.ask++[key] }) w':=by
 have hb:=h.ses.blk;obtain⟨i0,hi,hz0,hz1,hz2⟩:=info_parts Cb;obtain⟨A9,n9,k9,hv9,ho9,hc9,hz9⟩:=h.ses.dat.here.ask;have hn:=ho9.ints.len;have d48:w.cell? ⟨p,48,none⟩=some (.slice A9 n9 k9):=(hb.cell 48).trans (congrArg some hv9);have hnb:(((n9:Nat):Int)==200)=false:=by simp;omega
 have h32b:(decide (key<32))=false:=by simpa using hk
 have HCl:=A6 (D3 ho9.ints hc9 hz9);have hn9:n9<200:=by omega
 have H:=A6 h;clear h hb ho9 hc9 hz9 hv9 hn hk hk2;go_enter Tryz.func60,Tryz.ntmps60
 go_wp2_with fail
 refine HCl.out.mono ?_
 rintro e w1 ⟨B,d,rfl,hoB,hcB,he⟩;have hb1:=H.out.ses.blk.ext he;have f48:=hb1.frozen 48;clear d48 HCl;go_wp2_with (at_builtin;refine C6 rfl (.tmp 9) (.tmp 11) 25 rfl w w.heap.size 3 i0 (.int .i64 0) 1 8 Tryz.underlying25 hi hz0 hz1 hz2 rfl (by decide) B n9 d _ rfl hoB #[.int .i64 key] rfl (by simp[Value.oneCell']) rfl (by unfold maxLen;omega) (by omega) he (Nat.le_refl _) he.hsize ?_)
 intro A2 c2 w3 hO2 hgr hor hx3;have hb3:=H.out.ses.blk.ext hx3;have g48:w3.cell? ⟨p,48,none⟩=some v.ask:=hb3.cell 48;have f48:=hb3.frozen 48;have HR:Hid (Bx p w col { s with ask:=s.ask++[key] } (w3.setCell ⟨p,48,none⟩ (.slice A2 (n9+1) c2))):=A6 (by
  obtain⟨hm,ht⟩:=H.out.grow hx3 1;have hreg:Bk w3 w.heap.size (.slice A2 (n9+1) c2) (s.ask++[key]):=⟨A2,n9+1,c2,rfl,by unfold Av;rw[List.map_append];exact hO2,Bd.nocap' hO2,by omega⟩
  have hD:=Hw.reg (F:=fun k=>grow col w.heap.size w3.heap.size 1 k=1) hreg fun k h1 h2=>Jf h1 h2
  have c:=(Dl.start (An.refl w3) hm.ses.blk).set 48 (.slice A2 (n9+1) c2);have hr:=hm.chainD hD c { v with ask:=.slice A2 (n9+1) c2 } { s with ask:=s.ask++[key] } (by kernel_rfl) fun w'' htr ho' hd'=>⟨hd'.1,hd'.2,hd'.3,hd'.4,hd'.5,hd'.6,ho',hd'.8⟩
  exact⟨_,_,hr.1,ht.trans hr.2⟩)
 clear hO2 hgr hor hx3 hb3;go_wp2_with fail
 go_end0
 exact⟨rfl,HR.out⟩
structure xY (K:Nat)(s:PS):Prop where
 wf:∀x∈s.tx,(Lit.int .i64 x).wf=true
 line:tE s
 past:s.past.length≤30
 first:s.first.length≤200
 told:s.told.length≤500000000000
 hist:∀k,(toL s.hi s.tx k).length≤4096
 ask:s.ask.length≤200
 does:∀c d,Nn s.tx s.rl s.at_ s.fk s.fa c=some d→d.tx.length≤4096
 dot:∀n c ks d,s.last=some (c,ks)→Nn s.tx s.rl s.at_ s.fk s.fa (Ck c n)=some d→(Pi s (Ck c n) d).mode≠0→tD K 500000000000 (Pi s (Ck c n) d)
 keys:∀c ks,s.last=some (c,ks)→(∀k∈ks,k≠27)∧ks.length≤2000000
 few:K≤2000000
theorem Wv (h:Di w col p v s)(ok:xY K s)(c:Cm):
 Calls Tryz.prog 66 #[.pointer (some ⟨p,0,none⟩),.agg (Ni c)] w fun e w'=>e=.returned (.tuple #[])∧Bx p w col (Fc s c) w':=by
 obtain⟨k1,k2,k3,k4,k5⟩:=c;have hl:=ok.line.len;have hq:=ok.told;by_cases h3:k3≠0
 ·have e:Fc s ⟨k1,k2,k3,k4,k5⟩=doS s ⟨k1,k2,k3,k4,k5⟩:=if_pos h3
  rw[e];exact J0v h hl hq ok.wf ok.past ok.does (by simpa using h3)
 ·have h3:k3=0:=Decidable.not_not.1 h3
  subst h3;unfold Fc;rw[if_neg (by simp)]
  by_cases h1:k4=117
  ·rw[if_pos (show(_:Int)=_ from h1)]
   subst h1;exact sF h hl hq ok.past
  rw[if_neg (show ¬(_:Int)=_ from h1)]
  by_cases h2:k4=85
  ·rw[if_pos (show(_:Int)=_ from h2)]
   subst h2;exact mF h hl hq ok.first ok.past
  rw[if_neg (show ¬(_:Int)=_ from h2)]
  by_cases h3:k4=46
  ·rw[if_pos (show(_:Int)=_ from h3)]
   subst h3;exact wP h hl hq ok.wf ok.past ok.does (ok.dot k1) ok.keys ok.few
  rw[if_neg (show ¬(_:Int)=_ from h3)]
  by_cases h4:k4=107
  ·rw[if_pos (show(_:Int)=_ from h4)]
   subst h4;exact J0u h hl (by omega) (ok.hist _)
  rw[if_neg (show ¬(_:Int)=_ from h4)]
  by_cases h5:k4=106
  ·rw[if_pos (show(_:Int)=_ from h5)]
   subst h5;exact sJ h hl (by omega) (ok.hist _)
  rw[if_neg (show ¬(_:Int)=_ from h5)]
  by_cases h6:k4=71
  ·rw[if_pos (show(_:Int)=_ from h6)]
   subst h6;exact sI h hl (by omega) (ok.hist _)
  rw[if_neg (show ¬(_:Int)=_ from h6)]
  by_cases h7:k4=110∨k4=78
  ·rw[if_pos (show(_:Int)=_∨(_:Int)=_ from h7)]
   rcases h7 with h7|h7
   ·subst h7
    exact sH h hl (by omega) (fun _ _=>ok.hist _)
   ·subst h7
    exact sG h hl (by omega) (fun _ _=>ok.hist _)
  rw[if_neg (show ¬((_:Int)=_∨(_:Int)=_)from h7)]
  by_cases h8:k4=47∨k4=63
  ·rw[if_pos (show(_:Int)=_∨(_:Int)=_ from h8)]
   rcases h8 with h8|h8
   ·subst h8
    exact mD h hl hq
   ·subst h8
    exact mE h hl hq
  rw[if_neg (show ¬((_:Int)=_∨(_:Int)=_)from h8)]
  have nb:∀{x:Int},k4≠x→(k4==x)=false:=fun h=>by simpa using h
  exact sE h hl hq ok.wf ok.past ok.does (nb h1) (nb h2) (nb h3) (nb h4) (nb h5) (nb h6) (nb fun e=>h7 (.inl e)) (nb fun e=>h7 (.inr e)) (nb fun e=>h8 (.inl e)) (nb fun e=>h8 (.inr e))
theorem cA (h:Di w col p v s)(ok:xY K s)(c:Cm):
 Calls Tryz.prog 66 #[.pointer (some ⟨p,0,none⟩),.agg (Ni c)] w fun e w'=>e=.returned (.tuple #[])∧Bx p w col (Fc s c) w':=Wv h ok c
theorem sV (h:Di w col p v s)(ok:xY K s)(key:Int):
 Calls Tryz.prog 60 #[.pointer (some ⟨p,0,none⟩),.int .i64 key] w fun e w'=>e=.returned (.tuple #[])∧Bx p w col (Qd s key) w':=by
 have nb:∀{x:Int},key≠x→(key==x)=false:=fun h=>by simpa using h
 unfold Qd;by_cases h1:key=13∨key=10
 ·rw[if_pos h1]
  exact nA h h1 ok.line.len ok.told (fun _ _=>ok.hist _)
 rw[if_neg h1];by_cases h2:key=27
 ·rw[if_pos h2]
  exact wZ h h2
 rw[if_neg h2];by_cases h3:key=8∨key=127
 ·rw[if_pos h3]
  by_cases ha:s.ask=[]
  ·rw[if_pos ha]
   exact sW h h3 ha
  ·rw[if_neg ha]
   exact sY h h3 ha
 rw[if_neg h3];by_cases h4:key<32∨s.ask.length=200
 ·rw[if_pos h4]
  exact sX h (nb fun e=>h1 (.inl e)) (nb fun e=>h1 (.inr e)) (nb h2) (nb fun e=>h3 (.inl e)) (nb fun e=>h3 (.inr e)) h4 ok.told
 ·rw[if_neg h4]
  exact xA h (nb fun e=>h1 (.inl e)) (nb fun e=>h1 (.inr e)) (nb h2) (nb fun e=>h3 (.inl e)) (nb fun e=>h3 (.inr e)) (fun e=>h4 (.inl e)) (by have:=ok.ask;have:s.ask.length≠200:=fun e=>h4 (.inr e);omega)
end
