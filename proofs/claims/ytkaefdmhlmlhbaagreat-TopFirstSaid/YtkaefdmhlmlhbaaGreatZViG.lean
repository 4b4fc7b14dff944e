/-
  Part ZViG.
-/
import Derived.Test.YtkaefdmhlmlhbaaGreatZViA
import Derived.Test.YtkaefdmhlmlhbaaGreatZViE
set_option maxRecDepth 100000
set_option maxHeartbeats 16000000
set_option linter.unusedVariables false
set_option linter.unusedSimpArgs false
namespace Go.Proofs.YtkaefdmhlmlhbaaGreat
open Go.RowKit
open _root_.Go.Proofs.Tryz
open _root_.List renaming getElem?_append_left→Bs,getElem?_append_right→Bx,getElem?_cons_succ→Ag,getElem?_cons_zero→Af,getElem?_take→Po,getElem?_toArray→Ah,getElem_cons_succ→Ab,getElem_cons_zero→Aa,getElem_toArray→Ac,setIfInBounds_toArray→A7,set_cons_succ→Ae,set_cons_zero→Ad
open Value renaming int→Av,slice→Ak
open _root_.And renaming intro→Au
open _root_.Nat renaming le_refl→Aj
open Act renaming put→Ao
open AllReadyH renaming cons→Ai,nil→Am
open World renaming setCell→Bh
section
variable {col:Nat→Nat}{w w':World}{v:SV}{s:PS}{p base e z n c g:Nat}{xs:List Value}{l:List Int}{A B:Option Addr}{o:Option (List Int×Nat)}{cs:Array Value}
def grow (col:Nat→Nat)(a b c:Nat):Nat→Nat:=fun k=>if k<a then col k else if k<b then c else 0
theorem Jy {a b c k:Nat}(h1:a≤k)(h2:k<b):grow col a b c k=c:=by unfold grow;rw[if_neg (by omega),if_pos h2]
theorem Wu {a b c k:Nat}(h1:k<a):grow col a b c k=col k:=by unfold grow;rw[if_pos h1]
theorem Dm.grow (h:Dm w col p v s)(he:An w w')(c:Nat):Dm w' (grow col w.heap.size w'.heap.size c) p v s∧Km w col w' (grow col w.heap.size w'.heap.size c):=by
 have ha:=he.alt fun _=>False
 have ho:∀k,k<w.heap.size→Go.Proofs.YtkaefdmhlmlhbaaGreat.grow col w.heap.size w'.heap.size c k=col k:=fun k hk=>Wu hk
 have hf:∀x,∀k,k<w.heap.size→False→col k≠x:=fun _ _ _ h=>h.elim
 refine⟨⟨⟨h.ses.blk.ext he,(ho p h.ses.blk.lt).trans h.ses.own,h.ses.dat.turn ha (hf 1) ho,h.ses.now.turn ha (fun k h1 h2=>h2.elim) ho,fun k hk=>?_⟩,h.told.turn ha (fun k h1 h2=>h2.elim) ho,h.vis.turn ha (hf 6) ho⟩,ha.mono fun _ _ h=>h.elim,fun k hk h2=>by rw[←ho k hk];exact h2,fun k hk e=>(ho k hk).trans e⟩
 unfold Go.Proofs.YtkaefdmhlmlhbaaGreat.grow at hk;split at hk
 ·exact Nat.lt_of_lt_of_le (by assumption) he.hsize
 ·split at hk
  ·assumption
  ·exact absurd rfl hk
theorem Dm.chainD {D:World→Prop}(h:Dm w col p v s)(hD:Jd (fun k=>col k=1) w D)(c:E5 w w' p 100 cs)(v':SV)(s':PS)(hc:cs=Nn v' s')
 (hd:∀w'',(∀x t,By w x t→By w'' x t)→D w''→VD w'' v s→VD w'' v' s')
 (e1:v'.now=v.now:=by rfl) (e2:s'.now=s.now:=by rfl) (e3:v'.told=v.told:=by rfl) (e4:s'.told=s.told:=by rfl) (e5:v'.vis=v.vis:=by rfl) (e6:s'.vis=s.vis:=by rfl):Dm w' col p v' s'∧Km w col w' col:=by
 have rq:=hD.turn (col':=col) c.alt (fun k _ e=>by rw[e,h.ses.own];decide) fun _ _=>rfl
 exact h.put c.alt (hc▸c.blk) (fun M w'' h2 h3=>hd w'' (fun x t ht=>(ht.alt c.alt).alt h2) (rq M w'' h2 h3) (h.old c.alt M w'' h2 h3)) e1 e2 e3 e4 e5 e6
def Pl (s:PS):PS:={ s with past:=(s.past++[(s.tx,s.at_)]).drop (s.past.length+1-30) }
theorem Vv.save {w':World}{A':Option Addr}{n c':Nat}(ld:xs.length=n*2)(hn:s.past.length=n)
 (hp:∀i,i<n→∃a,xs[i*2]? = some (.pointer a)∧xs[i*2+1]? = some (.int .i64 (gP s.past i).2)∧By w' a (Pb (gP s.past i).1)) (hb:n≤30) (ht:By w' v.tr (Pb s.tx))
 (ho:Bd w' 0 92 2 A' (min 30 (n+1)) c' (Pm n xs v.tr s.at_)):Vv w' (.slice A' (min 30 (n+1)) c') (Pl s).past:=by
 refine⟨A',_,c',_,rfl,ho,?_,fun i hi=>?_⟩
 ·unfold Pl
  simp only[List.length_drop,List.length_append,List.length_singleton,hn];omega
 ·unfold Pl Pm
  have e:n+1-min 30 (n+1)=n+1-30:=by omega
  have UR:n+1-30+i<n+1:=by omega
  have hg:gP ((s.past++[(s.tx,s.at_)]).drop (s.past.length+1-30)) i=gP (s.past++[(s.tx,s.at_)]) (n+1-30+i):=by
   unfold gP;rw[List.getElem?_drop,hn]
  have g1:∀k,(List.drop (2*(n+1-30)) (xs++[Value.pointer v.tr,Av .i64 s.at_]))[k]? = (xs++[Value.pointer v.tr,Av .i64 s.at_])[2*(n+1-30)+k]? := fun k=>List.getElem?_drop ..
  simp only[hg,g1];rcases Nat.lt_or_ge (n+1-30+i) n with ae|ku
  ·obtain⟨a,k1,k2,k3⟩:=hp _ ae
   have bj:gP (s.past++[(s.tx,s.at_)]) (n+1-30+i)=gP s.past (n+1-30+i):=by unfold gP;rw[Bs (by omega)]
   rw[bj];refine⟨a,?_,?_,k3⟩
   ·rw[Bs (by omega),←k1];congr 1;omega
   ·rw[Bs (by omega),←k2];congr 1;omega
  ·have lm:n+1-30+i=n:=by omega
   have bj:gP (s.past++[(s.tx,s.at_)]) (n+1-30+i)=(s.tx,s.at_):=by unfold gP;rw[lm,←hn];simp
   rw[bj];refine⟨v.tr,?_,?_,ht⟩
   ·rw[Bx (by omega),show 2*(n+1-30)+i*2-xs.length=0 by omega];rfl
   ·rw[Bx (by omega),show 2*(n+1-30)+(i*2+1)-xs.length=1 by omega];rfl
theorem kS (h:Dm w col p v s)(hb:s.past.length≤30):
 Calls prog 139 #[.pointer (some ⟨p,0,none⟩)] w fun e w'=>e=.returned (.tuple #[])∧C6 p w col (Pl s) w':=by
 have hd:=h.ses.dat.here;obtain⟨A,n,c,xs,hv,ho,hn,hp⟩:=hd.past;have cm:∀u∈xs,u.oneCell'=true:=fun u hu=>by
  exact I23
 have dk:=h.ses.blk;have fz:=dk.frozen;have d0:w.cell? ⟨p,0,none⟩=some (.pointer v.tr):=dk.cell 0;have d1:w.cell? ⟨p,1,none⟩=some (.int .i64 s.at_):=dk.cell 1;have d43:w.cell? ⟨p,43,none⟩=some (.slice A n c):=(dk.cell 43).trans (congrArg some hv);have d44:w.cell? ⟨p,44,none⟩=some nl:=dk.cell 44;have HC:=A6 (J4z (q:=v.tr) (a:=s.at_) ((Bd.rd ho).ext (An.drew w)) cm (Bd.nocap' ho) (by omega))
 have H:=A6 h;go_enter func139,ntmps139
 go_region_law (first
  |(
   refine Cl rfl 164 #[.agg #[.slice A n c,()],.int .i64 30,.agg #[.pointer v.tr,s.at_]] rfl (by kernel_rfl) (fun u w'=>∃A' c',u=.agg #[.slice A' (min 30 (n+1)) c',()]∧Bd w' w.drew.heap.size 92 2 A' (min 30 (n+1)) c' (Pm n xs v.tr s.at_)) (HC.out.mono fun e w' ⟨A',c',h1,h2,h3⟩=>⟨_,h1,⟨A',c',rfl,h2⟩,h3⟩) ?_
   rintro u w2 ⟨A',c',rfl,je⟩ hE;have ak:=(H.out.ses.blk.ext (An.drew w)).ext hE;have e43:w2.cell? ⟨p,43,none⟩=some v.past:=ak.cell 43;have e44:w2.cell? ⟨p,44,none⟩=some nl:=ak.cell 44;have f2:=ak.frozen))
 all_goals
  have HR:Hid (C6 p w col (Pl s) ((w2.setCell ⟨p,43,none⟩ (.slice A' (min 30 (n+1)) c')).setCell ⟨p,44,none⟩ nl)):=A6 (by
   have In:An w w2:=(An.drew w).trans hE;obtain⟨hm,ht⟩:=H.out.grow In 1;have hD:Jd (fun k=>grow col w.heap.size w2.heap.size 1 k=1) w2 fun w=>Bd w 0 92 2 A' (min 30 (n+1)) c' (Pm n xs v.tr s.at_):=
    Jd.own (Bd.lower je (Nat.zero_le _)) fun g hg=>Jy (Bd.blk je g hg).1 (Bd.blk je g hg).2
   have c:=((E5.start (An.refl w2) hm.ses.blk).set 43 (.slice A' (min 30 (n+1)) c')).set 44 nl;have hr:=hm.chainD hD c { v with past:=.slice A' (min 30 (n+1)) c' } (Pl s) (by kernel_rfl) fun w'' ou o6 el=>⟨el.1,el.2,el.3,el.4,Vv.save ho.len hn (fun i hi=>let ⟨a,k1,k2,k3⟩:=hp i hi;⟨a,k1,k2,ou _ _ (By.ext In k3)⟩) (by omega) el.tr o6,el.6,el.7,el.8⟩
   exact⟨_,_,hr.1,ht.trans hr.2⟩)
  clear h hd hb hp cm dk H HC hE je ak hv ho hn;go_wp2_with fail
  go_end0
  exact⟨rfl,HR.out⟩
theorem Wk (h:l.length≤4096):(Pb l).toL=l∧(Pb l).sz=l.length:=by
 unfold Pb;rw[if_pos h];obtain⟨_,h2⟩:=M8 l.length l (Aj _);have h3:(Tr.build l).toL.length=(Tr.build l).sz:=Tr.len _;have h2:(Tr.build l).toL=l:=h2;rw[h2]at h3;exact⟨h2,h3.symm⟩
theorem Hc {a:Option Addr}(h:By w a (Pb l))(hl:l.length≤4096):
 Calls prog 53 #[.agg #[.pointer a]] w fun e w'=>∃v,e=.returned v∧(∃A c,v=.slice A l.length c∧Ba w' w.heap.size A l.length c l)∧An w w':=by
 obtain⟨h1,h2⟩:=Wk hl;refine(zR h (by omega)).mono ?_
 rintro e w' ⟨A,c,rfl,ho,he⟩;rw[h1,h2]at*;exact⟨_,rfl,⟨A,c,rfl,ho⟩,he⟩
theorem Ve (h:Dm w col p v s)(hl:s.tx.length≤4096):
 Calls prog 34 #[.pointer (some ⟨p,0,none⟩)] w fun e w'=>∃u,e=.returned u∧(∃A n c,u=.agg #[.slice A n c,s.at_]∧Ba w' w.heap.size A n c s.tx)∧An w w':=by
 have hx:=An.alloc w (.cells #[(),(0:Int)] 32);have hb:=Aq.new w 32 #[.slice none 0 0,.int .i64 0];have hp:=h.ses.blk.ext hx;have ht:=By.ext hx h.ses.dat.here.tr;have HC:=A6 (Hc (By.ext (An.drew _) ht) hl);have ae:=h.ses.blk.lt;have HX:=A6 hx;have HB:=A6 hb;have HP:=A6 hp;clear h hx ht hb;go_enter func34,ntmps34
 go_upto_region 1 with fail
 generalize w.alloc (.cells #[(),(0:Int)] 32)=W at*;have d0:W.cell? ⟨p,0,none⟩=some (.pointer v.tr):=hp.cell 0;have d1:W.cell? ⟨p,1,none⟩=some (.int .i64 s.at_):=hp.cell 1;clear hp;go_region_law (first
  |(
   refine Cl rfl 53 #[.agg #[.pointer v.tr]] rfl (by kernel_rfl) (fun u w'=>∃A c,u=.slice A s.tx.length c∧Ba w' W.drew.heap.size A s.tx.length c s.tx) HC.out ?_
   rintro u w2 ⟨A,c,rfl,je⟩ hE;have ak:=(HB.out.ext (An.drew W)).ext hE;have mf:=(HP.out.ext (An.drew W)).ext hE;have e0:=ak.cell 0;have e1:=ak.cell 1;have f0:=ak.frozen 0;have f1:=ak.frozen 1;have g1:w2.cell? ⟨p,1,none⟩=some (.int .i64 s.at_):=mf.cell 1;simp only[List.getElem?_toArray,List.getElem?_cons_zero,List.getElem?_cons_succ]at e0 e1))
 all_goals
  have hz:w.heap.size<W.heap.size:=HB.out.lt;have HR:=A6 (Au (Qe ak (.slice A s.tx.length c) (.int .i64 s.at_)) (Au (V8 je hz (.slice A s.tx.length c) (.int .i64 s.at_)) (Qd (HX.out.trans ((An.drew W).trans hE)) (Aj _) (.slice A s.tx.length c) (.int .i64 s.at_))));unfold xR at HR;clear HC HX HB HP hE je ak mf;go_wp2_with fail
  refine bodyPost_ret (Lh rfl _ _ _ _ _ _ _ rfl HR.out.1 underlying32 rfl (by kernel_rfl)) rfl ⟨_,rfl,⟨A,_,c,rfl,Bd.lower HR.out.2.1 (Nat.le_of_lt hz)⟩,HR.out.2.2⟩
def Ec (s:PS):PS:={ s with told:=s.told++[(1,[])] }
def J4 (s:PS):PS:=bif Uv s.tx s.first then Ec s else { Pl s with tx:=s.first,at_:=0 }
theorem pB (h:Dm w col p v s):
 Dm ((w.setCell ⟨p,0,none⟩ (.pointer v.first)).setCell ⟨p,1,none⟩ (0:Int)) col p { v with tr:=v.first } { s with tx:=s.first,at_:=0 }∧Km w col ((w.setCell ⟨p,0,none⟩ (.pointer v.first)).setCell ⟨p,1,none⟩ (0:Int)) col:=
 h.chain (((E5.start (An.refl w) h.ses.blk).set 0 (.pointer v.first)).set 1 (.int .i64 0)) _ _ (by kernel_rfl) fun w'' _ ht hd=>⟨hd.2,hd.2,hd.3,hd.4,hd.5,hd.6,hd.7,hd.8⟩
theorem nC (h:Dm w col p v s)(h1:s.tx.length≤4096)(h2:s.first.length≤4096)(h3:s.past.length≤30)(hq:s.told.length≤1000000000000):
 Calls prog 93 #[.pointer (some ⟨p,0,none⟩)] w fun e w'=>e=.returned (.tuple #[])∧C6 p w col (J4 s) w':=by
 have hb:=h.ses.blk;have hd:=h.ses.dat.here;have d0:w.cell? ⟨p,0,none⟩=some (.pointer v.tr):=hb.cell 0;have d45:w.cell? ⟨p,45,none⟩=some (.pointer v.first):=hb.cell 45;have jt:=A6 (Hc (By.ext (An.drew w) hd.tr) h1);have lu:Hid (∀wq,An w wq→_):=A6 fun wq he=>Hc (By.ext he hd.first) h2
 have ot:Hid (∀wq,An w wq→_):=A6 fun wq he=>Lf (h.ext he) hq
 have LP:Hid (∀wq,An w wq→_):=A6 fun wq he=>kS (h.ext he) h3
 have HB:=A6 hb;have HT:Hid (∀wq,An w wq→Km w col wq col):=A6 fun wq he=>⟨he.alt _,fun _ _ h=>h,fun _ _ h=>h⟩
 clear h hd hb;go_enter func93,ntmps93
 go_upto_region 0 with fail
 go_region_law (first
  |(
   refine Cl rfl 12 #[.slice A _ c,.slice A2 _ c2] rfl (by kernel_rfl) (fun u w'=>u=.bool (Uv s.tx s.first)) ((Lk (Ba.ints (Ba.ext o1 OA)) (Ba.ints o2)).mono fun e w' ⟨h1,h2⟩=>⟨_,h1,rfl,h2⟩) ?_
   rintro u w4 rfl SY)
  |(
   refine Cl rfl 53 #[.agg #[.pointer v.first]] rfl (by kernel_rfl) (fun u w'=>∃A c,u=.slice A s.first.length c∧Ba w' w2.heap.size A s.first.length c s.first) (lu.out _ In) ?_
   rintro u w3 ⟨A2,c2,rfl,o2⟩ OA)
  |(
   refine Cl rfl 53 #[.agg #[.pointer v.tr]] rfl (by kernel_rfl) (fun u w'=>∃A c,u=.slice A s.tx.length c∧Ba w' w.drew.heap.size A s.tx.length c s.tx) jt.out ?_
   rintro u w2 ⟨A,c,rfl,o1⟩ hE;have In:An w w2:=(An.drew w).trans hE;have g45:w2.cell? ⟨p,45,none⟩=some (.pointer v.first):=(HB.out.ext In).cell 45))
 all_goals
  have hX:=A6 (In.trans (OA.trans SY));clear o1 o2 hE OA SY In jt lu;cases heq:Uv s.tx s.first
  ·go_wp2_with fail
   refine(LP.out _ hX.out).mono ?_
   rintro e w5 ⟨rfl,col5,v5,hm,ht⟩;have cg:=hm.ses.blk;have e0:w5.cell? ⟨p,0,none⟩=some (.pointer v5.tr):=cg.cell 0;have e1:w5.cell? ⟨p,1,none⟩=some (.int .i64 s.at_):=cg.cell 1;have e45:w5.cell? ⟨p,45,none⟩=some (.pointer v5.first):=cg.cell 45;have fz:=cg.frozen;have HM:=A6 (pB hm);have UW:=A6 ((HT.out _ hX.out).trans ht);clear hm ht cg;go_wp2_with fail
   go_end0
   refine⟨rfl,?_⟩
   unfold J4;rw[heq];exact⟨_,_,HM.out.1,UW.out.trans HM.out.2⟩
  ·go_wp2_with fail
   refine(ot.out _ hX.out).mono ?_
   rintro e w5 ⟨rfl,hm⟩;have HM:=A6 (C6.trans (HT.out _ hX.out) hm);clear hm;go_wp2_with fail
   refine bodyPost_ret (results_none rfl _ _ _) rfl ?_
   refine⟨rfl,?_⟩
   unfold J4;rw[heq];exact HM.out
theorem G7 {g g' t t':Nat}{cs cs':Array Value}(h:Aq w g t cs)(h':Aq w g' t' cs')(ai:t≠t'):g≠g':=fun e=>by
 subst e;exact ai (h.inj h').1
theorem J4e (h:Bd w base e z A n c xs)(hg:g<base):∀k,(Ak A n c).ownBlock=some k→k≠g:=fun k hk=>by have:=(Bd.blk h k hk).1;omega
theorem zJ (h:Bd w base e z A n c xs)(hg:w.heap.size≤g):∀k,(Ak A n c).ownBlock=some k→k≠g:=fun k hk=>by have:=(Bd.blk h k hk).2;omega
theorem uF (h:Bd w base e z A n c xs)(hn:∀k,(Ak A n c).ownBlock=some k→k≠g)(a b:Value):Bd ((w.setCell ⟨g,0,none⟩ a).setCell ⟨g,1,none⟩ b) base e z A n c xs:=
 Bd.same h fun k hk=>by rw[Cs (hn k hk),Cs (hn k hk)]
def Gm (s:PS):PS:=if s.past.length=0 then Ec s else { s with past:=s.past.take (s.past.length-1),tx:=(gP s.past (s.past.length-1)).1,at_:=(gP s.past (s.past.length-1)).2 }
theorem C6.ext {w w1 w2:World}{s':PS}(h:C6 p w col s' w1)(he:An w1 w2):C6 p w col s' w2:=
 let ⟨c,v,h1,h2⟩:=h;⟨c,v,h1.ext he,h2.1.ext he,h2.2,h2.3⟩
theorem J2a {p a b:Nat}(h:p<a)(h2:a≤b):¬p=b:=by omega
theorem xD {w W:World}{p n d:Nat}{B r:Option Addr}(h:Dm w col p v s)(hn:s.past.length=n+1)(he:An w W)(ld:xs.length=(n+1)*2)
 (hp:∀i,i<n+1→∃a,xs[i*2]? = some (.pointer a)∧xs[i*2+1]? = some (.int .i64 (gP s.past i).2)∧By w a (Pb (gP s.past i).1)) (k3:By w r (Pb (gP s.past n).1)) (ho:Bd W w.heap.size 92 2 B n d (xs.take (n*2))):
 C6 p w col (Gm s) ((((W.setCell ⟨p,43,none⟩ (.slice B n d)).setCell ⟨p,44,none⟩ nl).setCell ⟨p,0,none⟩ (.pointer r)).setCell ⟨p,1,none⟩ (.int .i64 (gP s.past n).2)):=by
 obtain⟨hm,ht⟩:=h.grow he 1;have hD:Jd (fun k=>grow col w.heap.size W.heap.size 1 k=1) W fun w=>Bd w 0 92 2 B n d (xs.take (n*2)):=
  Jd.own (Bd.lower ho (Nat.zero_le _)) fun g hg=>Jy (Bd.blk ho g hg).1 (Bd.blk ho g hg).2
 have c:=((((E5.start (An.refl W) hm.ses.blk).set 43 (.slice B n d)).set 44 nl).set 0 (.pointer r)).set 1 (.int .i64 (gP s.past n).2);have e:Gm s={ s with past:=s.past.take n,tx:=(gP s.past n).1,at_:=(gP s.past n).2 }:=by
  unfold Gm;rw[if_neg (by omega),hn]
  rfl
 rw[e];have hr:=hm.chainD hD c { v with past:=.slice B n d,tr:=r } { s with past:=s.past.take n,tx:=(gP s.past n).1,at_:=(gP s.past n).2 } (by kernel_rfl) fun w'' ou o6 el=>⟨ou _ _ (By.ext he k3),el.2,el.3,el.4,⟨B,n,d,_,rfl,o6,by rw[List.length_take];omega,fun i hi=>?_⟩,el.6,el.7,el.8⟩
 ·exact⟨_,_,hr.1,ht.trans hr.2⟩
 ·obtain⟨a,k1,k2,k3⟩:=hp i (by omega)
  have hg:gP (s.past.take n) i=gP s.past i:=by unfold gP;rw[Po,if_pos hi]
  rw[hg];exact⟨a,by rw[Po,if_pos (by omega)];exact k1,by rw[Po,if_pos (by omega)];exact k2,ou _ _ (By.ext he k3)⟩
theorem J1r (h:Dm w col p v s)(h3:s.past.length≤30)(hq:s.told.length≤1000000000000):
 Calls prog 92 #[.pointer (some ⟨p,0,none⟩)] w fun e w'=>e=.returned (.tuple #[])∧C6 p w col (Gm s) w':=by
 have hd:=h.ses.dat.here;obtain⟨A,n,c,xs,hv,ho,hn,hp⟩:=hd.past;have dk:=h.ses.blk;have HB:Hid (∀wq,An w wq→wq.cell? ⟨p,0,none⟩=some (.pointer v.tr)∧wq.cell? ⟨p,1,none⟩=some (.int .i64 s.at_)∧wq.cell? ⟨p,43,none⟩=some (.slice A n c)∧wq.cell? ⟨p,44,none⟩=some nl):=
  A6 fun wq he=>⟨(dk.ext he).cell 0,(dk.ext he).cell 1,((dk.ext he).cell 43).trans (congrArg some hv),(dk.ext he).cell 44⟩
 have ot:Hid (∀wq,An w wq→_):=A6 fun wq he=>Lf (h.ext he) hq
 have HT:Hid (∀wq,An w wq→Km w col wq col):=A6 fun wq he=>⟨he.alt _,fun _ _ h=>h,fun _ _ h=>h⟩
 have H:=A6 h;have HP:=A6 hp;have HN:=A6 hn;have HO:=A6 ho;have HV:=A6 hv;rcases n with _|n
 ·have HC:Hid (∀wq,An w wq→Calls prog 140 #[.agg #[.slice A 0 c,()],.agg #[.pointer v.tr,s.at_]] wq fun e w'=>
   ∃u,e=.returned u∧(∃B d,u=.tuple #[.agg #[.slice B 0 d,()],.agg #[.pointer v.tr,s.at_],false])∧An wq w'):=
   A6 fun wq he=>(xF (Rd.nmax (Bd.rd ho)) (Bd.nocap' ho)).mono fun e w' ⟨⟨B,d,h1⟩,h3⟩=>⟨_,h1,⟨B,d,rfl⟩,h3⟩
  have ae:=dk.lt;clear h hd hv ho hn hp dk;go_enter func92,ntmps92
  go_upto_region 0 with fail
  refine wp_region_held_drew (S:=fun w'=>An w w') (by kernel_rfl) (An.drew w) (fun hS=>?_)
  refine Bf (i:=0) (v:=some p) rfl hS ?_
  refine Bf (i:=1) (v:=some p) rfl hS ?_
  refine Bf (i:=2) (v:=(.pointer (some ⟨p,43,none⟩))) rfl hS ?_
  refine Ga (i:=3) (v:=(.agg #[.slice A 0 c,nl])) rfl (fun w' ag=>by obtain⟨_,_,e0,e1⟩:=HB.out _ ag;go_simp) hS ?_
  refine Bf (i:=4) (v:=some p) rfl hS ?_
  refine Bf (i:=5) (v:=some p) rfl hS ?_
  refine Bf (i:=6) (v:=some p) rfl hS ?_
  refine Ga (i:=7) (v:=(.agg #[.pointer v.tr,s.at_])) rfl (fun w' ag=>by obtain⟨e0,e1,_,_⟩:=HB.out _ ag;go_simp) hS ?_
  generalize w.drew=cur at*
  iterate 3
   all_goals (first|refine wpAnyH_ready (rs:=[8,13,14]) (by decide +kernel) (by simp) (Ai rfl (fun K hK=>?_) (Ai rfl (fun K hK=>?_) (Ai rfl (fun K hK=>?_) Am)))|refine wpAnyH_ready (rs:=[8,13]) (by decide +kernel) (by simp) (Ai rfl (fun K hK=>?_) (Ai rfl (fun K hK=>?_) Am))|refine wpAnyH_ready (rs:=[8,14]) (by decide +kernel) (by simp) (Ai rfl (fun K hK=>?_) (Ai rfl (fun K hK=>?_) Am))|refine wpAnyH_ready (rs:=[13,14]) (by decide +kernel) (by simp) (Ai rfl (fun K hK=>?_) (Ai rfl (fun K hK=>?_) Am))|refine wpAnyH_ready (rs:=[8]) (by decide +kernel) (by simp) (Ai rfl (fun K hK=>?_) Am)|refine wpAnyH_ready (rs:=[13]) (by decide +kernel) (by simp) (Ai rfl (fun K hK=>?_) Am)|refine wpAnyH_ready (rs:=[14]) (by decide +kernel) (by simp) (Ai rfl (fun K hK=>?_) Am))
   all_goals (first
    |(
     refine Cl rfl 140 _ rfl (by kernel_rfl) (fun u w'=>∃B d,u=.tuple #[.agg #[.slice B 0 d,()],.agg #[.pointer v.tr,s.at_],false]) (HC.out _ hS) ?_
     rintro u w2 ⟨B,d,rfl⟩ hE;refine hK.out _ _ (hS.trans hE) (fun ao=>?_)
     clear hK K
     try replace ak:=Aq.ext ak hE
     try replace ap:=Aq.ext ap hE
     replace hS:=ao;clear ao hE
     try simp only[Ac,Aa,Ab,Ao,A7,Ad,Ae]
     refine Bf (i:=9) (v:=.tuple #[.agg #[.slice B 0 d,()],.agg #[.pointer v.tr,s.at_],false]) rfl hS ?_
     refine Bf (i:=10) (v:=.agg #[.slice B 0 d,()]) rfl hS ?_
     refine Bf (i:=11) (v:=.agg #[.pointer v.tr,s.at_]) rfl hS ?_
     refine wpAnyH_take (i:=12) (v:=.bool false) rfl (by kernel_rfl) (by kernel_rfl) (by kernel_rfl) (fun _ _ _ h=>h) (Or.inl ⟨by rfl,by(intro w' ag;go_simp)⟩) hS ?_
     try simp only[Ac,Aa,Ab,Ao,A7,Ad,Ae])
    |(
     go_simp
     refine hK.out _ _ (hS.to_alloc (.cells #[(),()] 97)) (fun ao=>?_)
     clear hK K;have hE:=Ms ao
     try replace ap:=Aq.ext ap hE
     have ak:=lY ao;have az:=hS.hsize;replace hS:=ao;clear ao hE;generalize World.alloc _ _=nx at*
     try simp only[Ac,Aa,Ab,Ao,A7,Ad,Ae])
    |(
     go_simp
     refine hK.out _ _ (hS.to_alloc (.cells #[.pointer none,(0:Int)] 92)) (fun ao=>?_)
     clear hK K;have hE:=Ms ao
     try replace ak:=Aq.ext ak hE
     have ap:=lY ao;have KC:=hS.hsize;replace hS:=ao;clear ao hE;generalize World.alloc _ _=nx at*
     try simp only[Ac,Aa,Ab,Ao,A7,Ad,Ae]))
  all_goals
   have e20:=ak.cell 0;have e21:=ak.cell 1;have f20:=ak.frozen 0;have f21:=ak.frozen 1;simp only[Ah,Af,Ag]at e20 e21;refine wpAnyH_ready (rs:=[15]) (by decide +kernel) (by simp) (Ai rfl (fun K hK=>?_) Am)
   go_simp
   have bj:=ak.lt;have ua:=ap.lt;have ie:=Ey ap (G7 ak ap (by decide)) (.slice B 0 d) (.slice none 0 0)
   have lw:=Ee ak (.slice B 0 d) (.slice none 0 0);have ao:=Ed hS az (.slice B 0 d) (.slice none 0 0);clear e20 e21 f20 f21 ak ap hS;generalize Bh (Bh _ _ _) _ _=W4 at*;refine hK.out _ _ ao (fun hS=>?_)
   clear hK K ao
   try simp only[Ac,Aa,Ab,Ao,A7,Ad,Ae]
   have e20:=ie.cell 0;have e21:=ie.cell 1;have f20:=ie.frozen 0;have f21:=ie.frozen 1;simp only[Ah,Af,Ag]at e20 e21;refine wpAnyH_ready (rs:=[16]) (by decide +kernel) (by simp) (Ai rfl (fun K hK=>?_) Am)
   go_simp
   have ak:=Ey lw (G7 ie lw (by decide)) (.pointer v.tr) (.int .i64 s.at_)
   have ap:=Ee ie (.pointer v.tr) (.int .i64 s.at_);have ao:=Ed hS KC (.pointer v.tr) (.int .i64 s.at_);clear e20 e21 f20 f21 lw ie hS;generalize Bh (Bh _ _ _) _ _=W5 at*;refine hK.out _ _ ao (fun hS=>?_)
   clear hK K ao
   try simp only[Ac,Aa,Ab,Ao,A7,Ad,Ae]
   refine wpAnyH_ready (rs:=[17]) (by decide +kernel) (by simp) (Ai rfl (fun K hK=>?_) Am)
   go_simp
   refine hK.out _ _ hS (fun _=>?_)
   clear hK K;refine wpAnyH_done (by kernel_rfl) ?_ _
   go_wp2_with fail
   refine(ot.out _ hS).mono ?_
   rintro e w6 ⟨rfl,hm⟩;have HM:=A6 (C6.trans (HT.out _ hS) hm);clear hm hS ak ap az KC;go_wp2_with fail
   refine bodyPost_ret (results_none rfl _ _ _) rfl ⟨rfl,?_⟩
   unfold Gm;rw[if_pos HN.out];exact HM.out
 ·obtain⟨r,k1,k2,k3⟩:=hp n (by omega)
  have cm:∀u∈xs,u.oneCell'=true:=fun u hu=>by
   exact I23
  have HC:Hid (∀wq,An w wq→Calls prog 140 #[.agg #[.slice A (n+1) c,()],.agg #[.pointer v.tr,s.at_]] wq fun e w'=>
   ∃u,e=.returned u∧(∃B d F f,u=.tuple #[.agg #[.slice B n d,.slice F 1 f],.agg #[.pointer r,.int .i64 (gP s.past n).2],true]∧Bd w' wq.heap.size 92 2 B n d (xs.take (n*2)))∧An wq w'):=
   A6 fun wq he=>(xE ((Bd.rd ho).ext he) cm (by omega) k1 k2).mono fun e w' ⟨B,d,F,f,h1,h2,h3⟩=>⟨_,h1,⟨B,d,F,f,rfl,h2⟩,h3⟩
  have ae:=dk.lt;clear h hd hv ho hn hp dk cm k1 k2;go_enter func92,ntmps92
  go_upto_region 0 with fail
  refine wp_region_held_drew (S:=fun w'=>An w w') (by kernel_rfl) (An.drew w) (fun hS=>?_)
  refine Bf (i:=0) (v:=some p) rfl hS ?_
  refine Bf (i:=1) (v:=some p) rfl hS ?_
  refine Bf (i:=2) (v:=(.pointer (some ⟨p,43,none⟩))) rfl hS ?_
  refine Ga (i:=3) (v:=(.agg #[.slice A (n+1) c,nl])) rfl (fun w' ag=>by obtain⟨_,_,e0,e1⟩:=HB.out _ ag;go_simp) hS ?_
  refine Bf (i:=4) (v:=some p) rfl hS ?_
  refine Bf (i:=5) (v:=some p) rfl hS ?_
  refine Bf (i:=6) (v:=some p) rfl hS ?_
  refine Ga (i:=7) (v:=(.agg #[.pointer v.tr,s.at_])) rfl (fun w' ag=>by obtain⟨e0,e1,_,_⟩:=HB.out _ ag;go_simp) hS ?_
  generalize w.drew=cur at*
  iterate 3
   all_goals (first|refine wpAnyH_ready (rs:=[8,13,14]) (by decide +kernel) (by simp) (Ai rfl (fun K hK=>?_) (Ai rfl (fun K hK=>?_) (Ai rfl (fun K hK=>?_) Am)))|refine wpAnyH_ready (rs:=[8,13]) (by decide +kernel) (by simp) (Ai rfl (fun K hK=>?_) (Ai rfl (fun K hK=>?_) Am))|refine wpAnyH_ready (rs:=[8,14]) (by decide +kernel) (by simp) (Ai rfl (fun K hK=>?_) (Ai rfl (fun K hK=>?_) Am))|refine wpAnyH_ready (rs:=[13,14]) (by decide +kernel) (by simp) (Ai rfl (fun K hK=>?_) (Ai rfl (fun K hK=>?_) Am))|refine wpAnyH_ready (rs:=[8]) (by decide +kernel) (by simp) (Ai rfl (fun K hK=>?_) Am)|refine wpAnyH_ready (rs:=[13]) (by decide +kernel) (by simp) (Ai rfl (fun K hK=>?_) Am)|refine wpAnyH_ready (rs:=[14]) (by decide +kernel) (by simp) (Ai rfl (fun K hK=>?_) Am))
   all_goals (first
    |(
     refine Cl rfl 140 _ rfl (by kernel_rfl) (fun u w'=>∃B d F f,u=.tuple #[.agg #[.slice B n d,.slice F 1 f],.agg #[.pointer r,.int .i64 (gP s.past n).2],true]∧Bd w' (World.heap _).size 92 2 B n d (xs.take (n*2))) (HC.out _ hS) ?_
     rintro u w2 ⟨B,d,F,f,rfl,oc⟩ hE;refine hK.out _ _ (hS.trans hE) (fun ao=>?_)
     clear hK K
     try have GN:=J4e oc ap.lt
     replace oc:=Bd.lower oc hS.hsize
     try replace ak:=Aq.ext ak hE
     try replace ap:=Aq.ext ap hE
     replace hS:=ao;clear ao hE
     try simp only[Ac,Aa,Ab,Ao,A7,Ad,Ae]
     refine Bf (i:=9) (v:=.tuple #[.agg #[.slice B n d,.slice F 1 f],.agg #[.pointer r,.int .i64 (gP s.past n).2],true]) rfl hS ?_
     refine Bf (i:=10) (v:=.agg #[.slice B n d,.slice F 1 f]) rfl hS ?_
     refine Bf (i:=11) (v:=.agg #[.pointer r,.int .i64 (gP s.past n).2]) rfl hS ?_
     refine wpAnyH_take (i:=12) (v:=.bool true) rfl (by kernel_rfl) (by kernel_rfl) (by kernel_rfl) (fun _ _ _ h=>h) (Or.inl ⟨by rfl,by(intro w' ag;go_simp)⟩) hS ?_
     try simp only[Ac,Aa,Ab,Ao,A7,Ad,Ae])
    |(
     go_simp
     refine hK.out _ _ (hS.to_alloc (.cells #[(),()] 97)) (fun ao=>?_)
     clear hK K;have hE:=Ms ao
     try replace ap:=Aq.ext ap hE
     try replace oc:=Bd.ext oc hE
     have ak:=lY ao;have az:=hS.hsize;replace hS:=ao;clear ao hE;generalize World.alloc _ _=nx at*
     try simp only[Ac,Aa,Ab,Ao,A7,Ad,Ae])
    |(
     go_simp
     refine hK.out _ _ (hS.to_alloc (.cells #[.pointer none,(0:Int)] 92)) (fun ao=>?_)
     clear hK K;have hE:=Ms ao
     try replace ak:=Aq.ext ak hE
     try have GN:=zJ oc (Nat.le_refl _)
     try replace oc:=Bd.ext oc hE
     have ap:=lY ao;have KC:=hS.hsize;replace hS:=ao;clear ao hE;generalize World.alloc _ _=nx at*
     try simp only[Ac,Aa,Ab,Ao,A7,Ad,Ae]))
  all_goals
   have e20:=ak.cell 0;have e21:=ak.cell 1;have f20:=ak.frozen 0;have f21:=ak.frozen 1;simp only[Ah,Af,Ag]at e20 e21;refine wpAnyH_ready (rs:=[15]) (by decide +kernel) (by simp) (Ai rfl (fun K hK=>?_) Am)
   go_simp
   have bj:=ak.lt;have ua:=ap.lt;have ie:=Ey ap (G7 ak ap (by decide)) (.slice B n d) (.slice F 1 f)
   have lw:=Ee ak (.slice B n d) (.slice F 1 f);have uk:=Jw oc ak (by decide) (.slice B n d) (.slice F 1 f)
   have ao:=Ed hS az (.slice B n d) (.slice F 1 f);clear e20 e21 f20 f21 ak ap oc hS;generalize Bh (Bh _ _ _) _ _=W4 at*;refine hK.out _ _ ao (fun hS=>?_)
   clear hK K ao
   try simp only[Ac,Aa,Ab,Ao,A7,Ad,Ae]
   have e20:=ie.cell 0;have e21:=ie.cell 1;have f20:=ie.frozen 0;have f21:=ie.frozen 1;simp only[Ah,Af,Ag]at e20 e21;refine wpAnyH_ready (rs:=[16]) (by decide +kernel) (by simp) (Ai rfl (fun K hK=>?_) Am)
   go_simp
   have ak:=Ey lw (G7 ie lw (by decide)) (.pointer r) (.int .i64 (gP s.past n).2)
   have ap:=Ee ie (.pointer r) (.int .i64 (gP s.past n).2);have oc:=uF uk GN (.pointer r) (.int .i64 (gP s.past n).2);have ao:=Ed hS KC (.pointer r) (.int .i64 (gP s.past n).2);clear e20 e21 f20 f21 lw ie uk hS;generalize Bh (Bh _ _ _) _ _=W5 at*;refine hK.out _ _ ao (fun hS=>?_)
   clear hK K ao
   try simp only[Ac,Aa,Ab,Ao,A7,Ad,Ae]
   refine wpAnyH_ready (rs:=[17]) (by decide +kernel) (by simp) (Ai rfl (fun K hK=>?_) Am)
   go_simp
   refine hK.out _ _ hS (fun _=>?_)
   clear hK K;refine wpAnyH_done (by kernel_rfl) ?_ _
   go_upto_region 3 with fail
   have KD:=H.out.ses.blk.ext hS;have d0:W5.cell? ⟨p,0,none⟩=some (.pointer v.tr):=KD.cell 0;have d1:W5.cell? ⟨p,1,none⟩=some (.int .i64 s.at_):=KD.cell 1;have d43:W5.cell? ⟨p,43,none⟩=some v.past:=KD.cell 43;have d44:W5.cell? ⟨p,44,none⟩=some nl:=KD.cell 44;have fz:=KD.frozen;have e20:=ak.cell 0;have e30:=ap.cell 0;have e31:=ap.cell 1;simp only[Ah,Af,Ag]at e20 e30 e31;have m2:=J2a ae az;have m3:=J2a ae KC;have m2':=fun e=>m2 (Eq.symm e)
   have m3':=fun e=>m3 (Eq.symm e)
   have HR:=A6 (xD H.out HN.out hS HO.out.len HP.out k3 oc);clear ak ap oc KD az KC bj ua GN hS;go_region
   all_goals
    go_wp2_with fail
    go_end0
    exact⟨rfl,HR.out.ext (An.drew _)⟩
theorem Wt {md:Int}{a:Nat}{k:Int}{m:List Int}{b:Nat}(h:Gy md l a k=some (m,b))(hl:l.length≤200)(ha:a≤l.length):m.length≤200∧b≤m.length:=by
 have hb:=Ni (l:=l) (k:=a) (big:=false) ha;unfold Gy at h;split at h
 ·split at h
  ·exact I39
  ·split at h
   ·cases h
   ·exact I39
 ·split at h
  ·cases h
  ·split at h
   ·cases h
   ·split at h
    ·exact I39
    ·split at h
     ·exact I39
     ·split at h
      ·injection h with h;injection h with h1 h2;subst h1;subst h2;omega
      ·exact I39
def bY (o:Option (List Int×Nat))(B:Option Addr)(q d:Nat)(b er:Int)(w:World):Prop:=
 (er=0∧∃(m:List Int) (a:Nat),o=some (m,a)∧b=a∧Ba w 0 B q d m)∨(er≠0∧o=none)
theorem bY.ext {q d:Nat}{b er:Int}(h:bY o B q d b er w)(he:An w w'):bY o B q d b er w':=
 h.imp (fun⟨h1,m,a,h2,h3,h4⟩=>⟨h1,m,a,h2,h3,h4.ext he⟩) id
theorem bY.set2 {q d g t:Nat}{b er:Int}(h:bY o B q d b er w)(hb:Aq w g t cs)(ht:t≠3)(x y:Value):bY o B q d b er ((w.setCell ⟨g,0,none⟩ x).setCell ⟨g,1,none⟩ y):=
 h.imp (fun⟨h1,m,a,h2,h3,h4⟩=>⟨h1,m,a,h2,h3,Jw h4 hb ht x y⟩) id
theorem J6h {n c a:Nat}{k md:Int}(hl:Ba w 0 A n c l)(hn:n≤200)(ha:a≤n)(dw:md=1∨md=2):
 Calls prog 85 #[.agg #[.slice A n c,a],.int .i64 md,.int .i64 k] w fun e w'=>∃u,e=.returned u∧(∃B q d b er,u=.tuple #[.agg #[.slice B q d,.int .i64 b],.int .i64 er]∧bY (Gy md l a k) B q d b er w')∧An w w':=by
 refine(zY hl.ints (Bd.nocap' hl) hn ha dw).mono ?_
 intro e w' h;cases hk:Gy md l a k with
 |none=>
  rw[hk]at h;obtain⟨h1,x,h2,rfl⟩:=h;exact⟨_,rfl,⟨_,_,_,_,_,rfl,.inr ⟨h2,rfl⟩⟩,h1⟩
 |some p=>
  obtain⟨m,b⟩:=p;rw[hk]at h;obtain⟨h1,B,q,d,rfl,h2⟩:=h;exact⟨_,rfl,⟨_,_,_,_,_,rfl,.inl ⟨rfl,m,b,rfl,rfl,Bd.lower h2 (Nat.zero_le _)⟩⟩,h1⟩
theorem uK {p q n k k2:Nat}{c:Cm}{A A2:Option Addr}{key:Int}(h:Dm w col p v s)(hv:v.now=some ⟨q,0,none⟩)(hs:s.now=some (c,l))
 (hq:col q=2) (hb:Aq w q 166 (Pe c++#[.slice A n k])) (ho:Ba w 0 A n k l) (hc:∀g,(Ak A n k).ownBlock=some g→col g=3)
 (hg:w.grownBy w' (Ak A n k).ownBlock) (je:Bd w' 0 3 1 A2 (n+1) k2 (l.map (Av .i64)++[.int .i64 key])) (cf:(Ak A2 (n+1) k2).ownBlock=(Ak A n k).ownBlock∨∃g,w.heap.size≤g∧(Ak A2 (n+1) k2).ownBlock=some g) (h8:(n+1)*8≤140737488355328):
 C6 p w col { s with now:=some (c,l++[key]) } (w'.setCell ⟨q,5,none⟩ (.slice A2 (n+1) k2)):=by
 have h7:=h.ses.own;have RX:(Ak A n k).ownBlock≠some q:=fun e=>by have:=hc q e;omega
 have Im:(Ak A n k).ownBlock≠some p:=fun e=>by have:=hc p e;omega
 have hqp:q≠p:=fun e=>by rw[e]at hq;omega
 have XX:(Ak A2 (n+1) k2).ownBlock≠some q:=fun e=>by
  rcases cf with e'|⟨g,h1,h2⟩
  ·exact RX (e'.symm.trans e)
  ·rw[h2]at e;injection e with e;have:=hb.lt;omega
 have ap:=hb.grown hg fun e=>RX e.symm
 have bn:Aq (w'.setCell ⟨q,5,none⟩ (.slice A2 (n+1) k2)) q 166 (Pe c++#[.slice A2 (n+1) k2]):=ap.set_ 5 _;have xc:=Bn (g':=q) (h.ses.blk.grown hg fun e=>Im e.symm) hqp 5 (.slice A2 (n+1) k2)
 have nw:=((Gw.of_own ho hg (by decide)).mono (M':=fun x=>(Ak A n k).ownBlock=some x∨x=q) fun x _ e=>.inl e).trans (Gw.set ap (by decide) 5 (.slice A2 (n+1) k2)) fun g _ e=>.inr e
 have fd:Bd (w'.setCell ⟨q,5,none⟩ (.slice A2 (n+1) k2)) 0 3 1 A2 (n+1) k2 (l.map (Av .i64)++[.int .i64 key]):=Bd.same je fun g hg=>Cs fun e=>XX (by rw[hg];exact congrArg some e)
 have hold:∀g,g<w.heap.size→(if(Ak A2 (n+1) k2).ownBlock=some g then 3 else col g)=col g:=fun g cr=>by
  split
  ·rename_i e
   rcases cf with e'|⟨g',h1,h2⟩
   ·exact(hc g (e'.symm.trans e)).symm
   ·rw[h2]at e;injection e with e;omega
  ·rfl
 have hm:∀d,d≠3→d≠2→∀g,g<w.heap.size→((Ak A n k).ownBlock=some g∨g=q)→col g≠d:=fun d h1 h2 g _ e=>by
  rcases e with e|rfl
  ·rw[hc g e];exact fun e=>h1 e.symm
  ·rw[hq];exact fun e=>h2 e.symm
 refine⟨fun g=>if(Ak A2 (n+1) k2).ownBlock=some g then 3 else col g,v,⟨⟨xc,(hold p h.ses.blk.lt).trans h7,(h.ses.dat.turn nw (hm 1 (by decide) (by decide)) hold).imp fun _ h=>⟨h.1,h.2,h.3,h.4,h.5,h.6,h.7,h.8⟩,?_,fun g cr=>?_⟩,h.told.turn nw (fun g h1 h2=>⟨hm 4 (by decide) (by decide) g h1 h2,hm 5 (by decide) (by decide) g h1 h2⟩) hold,h.vis.turn nw (hm 6 (by decide) (by decide)) hold⟩,nw.mono fun g h1 h2=>?_,fun g h1 h2=>by rw[←hold g h1];exact h2,fun g h1 e=>(hold g h1).trans e⟩
 ·rw[hv]
  exact⟨q,_,rfl,(hold q hb.lt).trans hq,bn,⟨A2,n+1,k2,rfl,by unfold Ba;rw[List.map_append];exact fd,Bd.nocap' fd,h8⟩,fun g e=>if_pos e⟩
 ·by_cases e:(Ak A2 (n+1) k2).ownBlock=some g
  ·exact(Bd.blk fd g e).2
  ·have cr:(if(Ak A2 (n+1) k2).ownBlock=some g then 3 else col g)≠0:=cr
   exact I81
 ·rcases h2 with e|rfl
  ·rw[hc g e];decide
  ·rw[hq];decide
def Pu (s:PS):PS:={ s with at_:=max 0 (s.at_-1),mode:=0,last:=s.now.or s.last,now:=none }
def Cn (s:PS)(key:Int):PS:=
 if key=27 then Pu s
 else match Gy s.mode s.tx s.at_.toNat key with
  |none=>Ec s
  |some (m,b)=>{ s with tx:=m,at_:=b,now:=s.now.map fun x=>(x.1,x.2++[key]) }
structure xP (s:PS):Prop where
 len:s.tx.length≤200
 lo:0≤s.at_
 hi:s.at_≤s.tx.length
def KOk (K:Nat)(s:PS):Prop:=∀x,s.now=some x→x.2.length≤K
theorem Vy {p K:Nat}{key:Int}(h:Dm w col p v s)(hl:xP s)(hm:s.mode=1∨s.mode=2)(hk:KOk K s)(hK:K≤1000000000)(hq:s.told.length≤1000000000000):
 Calls prog 64 #[.pointer (some ⟨p,0,none⟩),.int .i64 key] w fun e w'=>e=.returned (.tuple #[])∧C6 p w col (Cn s key) w':=by
 obtain⟨a,ha⟩:∃a:Nat,s.at_=a:=⟨s.at_.toNat,by have:=hl.lo;omega⟩
 have WA:a≤s.tx.length:=by have:=hl.hi;omega
 by_cases tm:key=27
 ·subst tm
  have HL:=A6 (uT h ha (by have:=hl.len;omega))
  have HF:Hid (Cn s 27={ s with at_:=max 0 ((a:Int)-1),mode:=0,last:=s.now.or s.last,now:=none }):=A6 (by unfold Cn Pu;rw[if_pos rfl,ha])
  clear h hl hm hk ha;go_enter func64,ntmps64
  go_wp2_with fail
  refine HL.out.mono ?_
  rintro e w1 ⟨rfl,h1⟩;have H1:=A6 h1;clear h1 HL;exact I99
 ·have IY:(key==27)=false:=by simpa using tm
  have HF:Hid (Cn s key=match Gy s.mode s.tx a key with|none=>Ec s|some (m,b)=>{ s with tx:=m,at_:=b,now:=s.now.map fun x=>(x.1,x.2++[key]) }):=A6 (by unfold Cn;rw[if_neg tm,ha];rfl)
  have sy:=A6 (Ve h (show s.tx.length≤4096 by have:=hl.len;omega))
  have XY:=A6 hl;have HKl:=A6 hk;have HB:Hid (∀wq,An w wq→Aq wq p 100 (Nn v s)):=A6 fun wq he=>h.ses.blk.ext he
  have H:=A6 h;have HA:=A6 ha;have HAL:=A6 WA;have HM:=A6 hm;clear h hl hk ha hm tm WA;go_enter func64,ntmps64
  go_upto_region 2 with fail
  refine wp_region_held_drew (S:=fun w'=>An w w') (by kernel_rfl) (An.drew w) (fun hS=>?_)
  refine Bf (i:=0) (v:=some p) rfl hS ?_
  refine Bf (i:=2) (v:=some p) rfl hS ?_
  refine Bf (i:=3) (v:=some p) rfl hS ?_
  refine Bf (i:=4) (v:=(.pointer (some ⟨p,2,none⟩))) rfl hS ?_
  refine Ga (i:=5) (v:=s.mode) rfl (fun w' ag=>by have e0:w'.cell? ⟨p,2,none⟩=some (.int .i64 s.mode):=(HB.out _ ag).cell 2;go_simp) hS ?_
  refine Bf (i:=6) (v:=key) rfl hS ?_
  have XZ:Hid (∀wq,An w wq→Calls prog 34 #[.pointer (some ⟨p,0,none⟩)] wq fun e w'=>∃u,e=.returned u∧(∃A n c,u=.agg #[.slice A n c,a]∧Ba w' wq.heap.size A n c s.tx)∧An wq w'):=
   A6 fun wq he=>by have hh:=Ve (H.out.ext he) (show s.tx.length≤4096 by have:=XY.out.len;omega);rw[HA.out]at hh;exact hh
  clear sy;generalize w.drew=cur at*
  iterate 3
   all_goals (first|refine wpAnyH_ready (rs:=[1,11]) (by decide +kernel) (by simp) (Ai rfl (fun K hK=>?_) (Ai rfl (fun K hK=>?_) Am))|refine wpAnyH_ready (rs:=[7,11]) (by decide +kernel) (by simp) (Ai rfl (fun K hK=>?_) (Ai rfl (fun K hK=>?_) Am))|refine wpAnyH_ready (rs:=[1]) (by decide +kernel) (by simp) (Ai rfl (fun K hK=>?_) Am)|refine wpAnyH_ready (rs:=[7]) (by decide +kernel) (by simp) (Ai rfl (fun K hK=>?_) Am)|refine wpAnyH_ready (rs:=[11]) (by decide +kernel) (by simp) (Ai rfl (fun K hK=>?_) Am))
   all_goals (first
    |(
     refine Cl rfl 85 #[.agg #[.slice A n c,a],.int .i64 s.mode,.int .i64 key] rfl (by kernel_rfl) (fun u w'=>∃B q d b er,u=.tuple #[.agg #[.slice B q d,.int .i64 b],.int .i64 er]∧bY (Gy s.mode s.tx a key) B q d b er w') (J6h i9 (by rw[←i9.ints.len];exact XY.out.len) (by rw[←i9.ints.len];exact HAL.out) HM.out) ?_
     rintro u w3 ⟨B,q,d,b,er,rfl,hR⟩ hE;refine hK.out _ _ (hS.trans hE) (fun ao=>?_)
     clear hK K i9
     try replace bn:=Aq.ext bn hE
     replace hS:=ao;clear ao hE
     try simp only[Ac,Aa,Ab,Ao,A7,Ad,Ae]
     refine Bf (i:=8) (v:=.tuple #[.agg #[.slice B q d,.int .i64 b],.int .i64 er]) rfl hS ?_
     refine Bf (i:=9) (v:=.agg #[.slice B q d,.int .i64 b]) rfl hS ?_
     refine wpAnyH_take (i:=10) (v:=.int .i64 er) rfl (by kernel_rfl) (by kernel_rfl) (by kernel_rfl) (fun _ _ _ h=>h) (Or.inl ⟨by rfl,by(intro w' ag;go_simp)⟩) hS ?_
     try simp only[Ac,Aa,Ab,Ao,A7,Ad,Ae])
    |(
     refine Cl rfl 34 #[.pointer (some ⟨p,0,none⟩)] rfl (by kernel_rfl) (fun u w'=>∃A n c,u=.agg #[.slice A n c,a]∧Ba w' (World.heap _).size A n c s.tx) (XZ.out _ hS) ?_
     rintro u w2 ⟨A,n,c,rfl,i9⟩ hE;refine hK.out _ _ (hS.trans hE) (fun ao=>?_)
     clear hK K;replace i9:Ba _ 0 A n c s.tx:=Bd.lower i9 (Nat.zero_le _)
     try replace bn:=Aq.ext bn hE
     replace hS:=ao;clear ao hE
     try simp only[Ac,Aa,Ab,Ao,A7,Ad,Ae])
    |(
     go_simp
     refine hK.out _ _ (hS.to_alloc (.cells #[(),(0:Int)] 32)) (fun ao=>?_)
     clear hK K;have hE:=Ms ao
     try replace i9:=Ba.ext i9 hE
     try replace hR:=hR.ext hE
     have bn:=lY ao;have vn:=hS.hsize;replace hS:=ao;clear ao hE;generalize World.alloc _ _=nx at*
     try simp only[Ac,Aa,Ab,Ao,A7,Ad,Ae]))
  all_goals
   have e40:=bn.cell 0;have e41:=bn.cell 1;have f40:=bn.frozen 0;have f41:=bn.frozen 1;simp only[Ah,Af,Ag]at e40 e41;refine wpAnyH_ready (rs:=[12]) (by decide +kernel) (by simp) (Ai rfl (fun K hK=>?_) Am)
   go_simp
   have wi:=hR.set2 bn (by decide) (.slice B q d) (.int .i64 b)
   have BZ:=Ee bn (.slice B q d) (.int .i64 b);have ao:=Ed hS vn (.slice B q d) (.int .i64 b);clear e40 e41 f40 f41 bn hR hS;generalize Bh (Bh _ _ _) _ _=W4 at*;refine hK.out _ _ ao (fun hS=>?_)
   clear hK K ao
   try simp only[Ac,Aa,Ab,Ao,A7,Ad,Ae]
   refine wpAnyH_ready (rs:=[13]) (by decide +kernel) (by simp) (Ai rfl (fun K hK=>?_) Am)
   go_simp
   refine hK.out _ _ hS (fun _=>?_)
   clear hK K;refine wpAnyH_done (by kernel_rfl) ?_ _
   have hTr:Hid (Km w col W4 col):=A6 ⟨hS.alt _,fun _ _ h=>h,fun _ _ h=>h⟩
   rcases wi with⟨rfl,m,a',CQ,rfl,hI⟩|⟨ey,jc⟩
   ·have IT:=Wt CQ XY.out.len HAL.out
    have e40:=BZ.cell 0;have e41:=BZ.cell 1;simp only[Ah,Af,Ag]at e40 e41;have DD:=A6 (fQ (a:=a') (H.out.ext hS) hI.ints (by rw[←hI.ints.len];omega))
    have HKM:=A6 CQ;clear hI BZ CQ;go_wp2_with fail
    refine DD.out.mono ?_
    rintro e w6 ⟨rfl,tq,ei,ou⟩;have FO:=A6 (hTr.out.trans ou);have d47:w6.cell? ⟨p,47,none⟩=some (.pointer v.now):=ei.ses.blk.cell 47;have lk:=A6 ei;clear ei ou;have hN:=lk.out.ses.now;cases hv:v.now with
    |none=>
     rw[hv]at d47;have qp:s.now=none:=by
      have hN:S8 w6 col v.now s.now:=hN;rw[hv]at hN;rcases hs:s.now with _|⟨c',l'⟩
      ·rfl
      ·rw[hs]at hN;exact absurd hN (fun h=>h)
     clear hN;go_wp2_with fail
     go_end0
     have e:(s.now.map fun x=>(x.1,x.2++[key]))=s.now:=by rw[qp];rfl
     have cn:C6 p w col { s with tx:=m,at_:=(a':Int),now:=s.now.map fun x=>(x.1,x.2++[key]) } w6:=by rw[e];exact⟨_,_,lk.out,FO.out⟩
     refine⟨rfl,?_⟩
     rw[HF.out,HKM.out];exact cn
    |some qa=>
     rw[hv]at d47;have hN:S8 w6 col v.now s.now:=hN;rw[hv]at hN;rcases hs:s.now with _|⟨c',l'⟩
     ·rw[hs]at hN;exact absurd hN (fun h=>h)
     ·rw[hs]at hN
      obtain⟨qq,y,rfl,g1,g2,⟨A5,n5,k5,rfl,g3,g4,g6⟩,g5⟩:=hN;have hlen5:l'.length=n5:=g3.ints.len;have xq:n5≤1000000000:=by have:=HKl.out _ hs;simp at this;omega
      obtain⟨i0,hi,bm,bz,az⟩:=info_parts Cd;have HG:=A6 (And.intro g2 g3);have e5:w6.cell? ⟨qq,5,none⟩=some (.slice A5 n5 k5):=g2.cell 5;have HHS:=A6 hs;have RY:=A6 hv;have G5:=A6 g5;have G1:=A6 g1;clear g1 g2 g3 g4 g6 g5 hv hs;go_upto_region 7 with fail
      refine wp_region_held_drew (S:=fun w'=>w'.cell? ⟨p,47,none⟩=some (.pointer (some ⟨qq,0,none⟩))) (by kernel_rfl) d47 (fun hS=>?_)
      refine Bf (i:=0) (v:=some p) rfl hS ?_
      refine Bf (i:=1) (v:=some p) rfl hS ?_
      refine Bf (i:=2) (v:=(.pointer (some ⟨p,47,none⟩))) rfl hS ?_
      refine Ga (i:=3) (v:=some qq) rfl (fun w' ag=>by have e0:=ag;go_simp) hS ?_
      refine Bf (i:=4) (v:=some p) rfl hS ?_
      refine Bf (i:=5) (v:=some p) rfl hS ?_
      refine Bf (i:=6) (v:=(.pointer (some ⟨p,47,none⟩))) rfl hS ?_
      refine Ga (i:=7) (v:=some qq) rfl (fun w' ag=>by have e0:=ag;go_simp) hS ?_
      refine Bf (i:=8) (v:=some qq) rfl hS ?_
      refine Bf (i:=9) (v:=(.pointer (some ⟨qq,5,none⟩))) rfl hS ?_
      refine Bf (i:=11) (v:=key) rfl hS ?_
      have bj:Aq w6.drew qq 166 (Pe c'++#[.slice A5 n5 k5]):=HG.out.1;have ua:Ba w6.drew 0 A5 n5 k5 l':=HG.out.2;have hgM:Dm w6.drew col p _ _:=lk.out.ext (An.drew w6);have eb:=hgM.ses.blk;clear d47 e5 HG lk hS;have VQ:Hid (Km w col w6.drew col):=A6 (FO.out.trans ⟨(An.drew w6).alt _,fun _ _ h=>h,fun _ _ h=>h⟩)
      clear FO;generalize w6.drew=cur at*;have ai:(Ak A5 n5 k5).ownBlock≠some p:=Pq ua eb (by decide)
      have RX:(Ak A5 n5 k5).ownBlock≠some qq:=Pq ua bj (by decide)
      have hSp:cur.cell? ⟨p,47,none⟩=some (.pointer (some ⟨qq,0,none⟩)):=(eb.cell 47).trans (congrArg (fun x=>some (Value.pointer x)) RY.out)
      have LU:(cur.alloc (.cells #[key] 3)).cell? ⟨p,47,none⟩=some (.pointer (some ⟨qq,0,none⟩)):=An.cell (An.alloc _ _) hSp;have hq5:cur.cell? ⟨qq,5,none⟩=some (.slice A5 n5 k5):=bj.cell 5;have hqa:(cur.alloc (.cells #[key] 3)).cell? ⟨qq,5,none⟩=some (.slice A5 n5 k5):=An.cell (An.alloc _ _) hq5;refine wpAnyH_ready (rs:=[10,12]) (by decide +kernel) (by simp) (Ai rfl (fun K hK=>?_) (Ai rfl (fun K hK=>?_) Am))
      ·have N0:=trivial;exact K20
      ·have N1:=trivial;exact K20
   ·have YA:(er !=0)=true:=by simpa using ey
    have YB:=A6 (Lf (H.out.ext hS) hq);have HKN:=A6 jc;clear BZ jc ey;go_wp2_with fail
    refine YB.out.mono ?_
    rintro e w6 ⟨rfl,hm⟩;have zg:=A6 (C6.trans hTr.out hm);clear hm;go_wp2_with fail
    refine bodyPost_ret (results_none rfl _ _ _) rfl ⟨rfl,?_⟩
    rw[HF.out,HKN.out];exact zg.out
theorem Dm.drop (h:Dm w col p v s):Dm (w.setCell ⟨p,47,none⟩ (.pointer none)) col p { v with now:=none } { s with now:=none }∧Km w col (w.setCell ⟨p,47,none⟩ (.pointer none)) col:=by
 have h7:=h.ses.own;have c:=(E5.start (An.refl w) h.ses.blk).set 47 (.pointer none);have hm:∀c,c≠7→∀k,k<w.heap.size→k=p→col k≠c:=fun c hc k _ e=>by rw[e,h7];exact fun e=>hc e.symm
 exact⟨⟨⟨c.to (by kernel_rfl),h7,(h.old c.alt).imp fun _ h=>⟨h.1,h.2,h.3,h.4,h.5,h.6,h.7,h.8⟩,trivial,fun k hk=>Nat.lt_of_lt_of_le (h.ses.dom k hk) c.alt.size⟩,h.told.turn c.alt (fun k h1 h2=>⟨hm 4 (by decide) k h1 h2,hm 5 (by decide) k h1 h2⟩) fun _ _=>rfl,h.vis.turn c.alt (hm 6 (by decide)) fun _ _=>rfl⟩,c.alt.mono fun k _ e=>by rw[e,h7];decide,fun _ _ h=>h,fun _ _ h=>h⟩
def fL (w:World)(p:Nat)(a b c d e f:Value):World:=(((((w.setCell ⟨p,37,none⟩ a).setCell ⟨p,38,none⟩ b).setCell ⟨p,39,none⟩ c).setCell ⟨p,40,none⟩ d).setCell ⟨p,41,none⟩ e).setCell ⟨p,42,none⟩ f
theorem Dm.hist {p b:Nat}{hi:Hi}{a d e:Value}(h:Dm w col p v s)(he:An w w')(hh:Dp w' b (.agg #[a,hi.most,hi.at_,d,e,.bool hi.older]) hi)(hb:w.heap.size≤b):
 ∃col',Dm (fL w' p a (.int .i64 hi.most) (.int .i64 hi.at_) d e (.bool hi.older)) col' p { v with h0:=a,h3:=d,h4:=e } { s with hi:=hi }∧Km w col (fL w' p a (.int .i64 hi.most) (.int .i64 hi.at_) d e (.bool hi.older)) col'∧∀k,k<w.heap.size→col' k=col k:=by
 obtain⟨hm,ht⟩:=h.grow he 1;have hD:Jd (fun k=>Go.Proofs.YtkaefdmhlmlhbaaGreat.grow col w.heap.size w'.heap.size 1 k=1) w' fun x=>Dp x 0 (.agg #[a,hi.most,hi.at_,d,e,.bool hi.older]) hi:=
  Jd.his hh fun k h1 h2=>Jy (Nat.le_trans hb h1) h2
 have c:=((((((E5.start (An.refl w') hm.ses.blk).set 37 a).set 38 (.int .i64 hi.most)).set 39 (.int .i64 hi.at_)).set 40 d).set 41 e).set 42 (.bool hi.older);have hr:=hm.chainD hD c { v with h0:=a,h3:=d,h4:=e } { s with hi:=hi } (by kernel_rfl) fun w'' ou o6 el=>⟨el.1,el.2,el.3,o6,el.5,el.6,el.7,el.8⟩
 exact⟨_,hr.1,ht.trans hr.2,fun k hk=>Wu hk⟩
theorem Dp.form {b:Nat}{u:Value}{h:Hi}(hh:Dp w b u h):∃A n c S sn sc P pn pc,u=.agg #[.slice A n c,h.most,h.at_,.slice S sn sc,.slice P pn pc,.bool h.older]:=by
 obtain⟨A,n,c,S,sn,sc,P,pn,pc,e,_⟩:=hh;exact⟨A,n,c,S,sn,sc,P,pn,pc,e⟩
noncomputable def Nt (s:PS):PS:=Yc { s with hi:=Pi s.hi s.tx,told:=s.told++[(2,s.tx)],now:=none } [] 1
theorem qR (h:Dm w col p v s)(hl:s.tx.length≤200)(hq:s.told.length≤1000000000000):
 Calls prog 61 #[.pointer (some ⟨p,0,none⟩)] w fun e w'=>e=.returned (.tuple #[])∧C6 p w col (Nt s) w':=by
 have hd:=h.ses.dat.here;have hb:=h.ses.blk;have d0:w.cell? ⟨p,0,none⟩=some (.pointer v.tr):=hb.cell 0;have HC:=A6 (Hc hd.tr (by omega))
 have H:=A6 h;have HL:=A6 hl;clear h hd hb hl;go_enter func61,ntmps61
 go_wp2_with fail
 refine HC.out.mono ?_
 rintro e w1 ⟨_,rfl,⟨A,c,rfl,hA⟩,he⟩;obtain⟨dm,nh⟩:=H.out.grow he 5;have LQ:Jd (fun k=>Go.Proofs.YtkaefdmhlmlhbaaGreat.grow col w.heap.size w1.heap.size 5 k=5) w1 fun x=>Bl x 0 (.slice A s.tx.length c) s.tx:=
  Jd.reg (b:=w.heap.size) ⟨A,_,c,rfl,hA,Bd.nocap' hA,by have:=HL.out;omega⟩ fun k h1 h2=>Jy h1 h2
 generalize Go.Proofs.YtkaefdmhlmlhbaaGreat.grow col w.heap.size w1.heap.size 5=col1 at*;have DU:=dm.ses.dat.here;obtain⟨A0,n0,c0,S0,sn0,sc0,P0,pn0,pc0,OC⟩:=DU.his.form;have HAd:=A6 (J6p DU.his.v (Ba.ints hA) (Bd.nocap' hA));have al:=dm.ses.blk;have d37:w1.cell? ⟨p,37,none⟩=some v.h0:=al.cell 37;have d38:w1.cell? ⟨p,38,none⟩=some (.int .i64 s.hi.most):=al.cell 38;have d39:w1.cell? ⟨p,39,none⟩=some (.int .i64 s.hi.at_):=al.cell 39;have d40:w1.cell? ⟨p,40,none⟩=some v.h3:=al.cell 40;have d41:w1.cell? ⟨p,41,none⟩=some v.h4:=al.cell 41;have d42:w1.cell? ⟨p,42,none⟩=some (.bool s.hi.older):=al.cell 42;have mi:=A6 dm;have HT1:=A6 nh;have JH:=A6 LQ;clear DU OC dm nh LQ al hA d0;go_wp2_with fail
 refine HAd.out.mono ?_
 rintro e w2 ⟨u,x,rfl,hu,au⟩;obtain⟨A1,n1,c1,S1,sn1,sc1,P1,pn1,pc1,rfl⟩:=hu.form;obtain⟨col2,ej,ju,fo⟩:=mi.out.hist au hu (Nat.le_refl _);have ak:=mi.out.ses.blk.ext au;have fz:=ak.frozen;have e37:w2.cell? ⟨p,37,none⟩=some v.h0:=ak.cell 37;have e38:w2.cell? ⟨p,38,none⟩=some (.int .i64 s.hi.most):=ak.cell 38;have e39:w2.cell? ⟨p,39,none⟩=some (.int .i64 s.hi.at_):=ak.cell 39;have e40:w2.cell? ⟨p,40,none⟩=some v.h3:=ak.cell 40;have e41:w2.cell? ⟨p,41,none⟩=some v.h4:=ak.cell 41;have e42:w2.cell? ⟨p,42,none⟩=some (.bool s.hi.older):=ak.cell 42;have hT:Hid (∀wx cx,Km (fL w2 p (.slice A1 n1 c1) (.int .i64 (Pi s.hi s.tx).most) (.int .i64 (Pi s.hi s.tx).at_) (.slice S1 sn1 sc1) (.slice P1 pn1 pc1) (.bool (Pi s.hi s.tx).older)) col2 wx cx→Km w col wx cx):=A6 fun wx cx hx=>HT1.out.trans (ju.trans hx)
 have DL:=A6 (V7 (k:=2) (y:=.slice A s.tx.length c) (l:=s.tx) ej (by
  have ha:Gw (fun k=>k=p) w1 (fL w2 p (.slice A1 n1 c1) (.int .i64 (Pi s.hi s.tx).most) (.int .i64 (Pi s.hi s.tx).at_) (.slice S1 sn1 sc1) (.slice P1 pn1 pc1) (.bool (Pi s.hi s.tx).older)):=
   ((((((E5.start au (mi.out.ses.blk.ext au)).set 37 _).set 38 _).set 39 _).set 40 _).set 41 _ |>.set 42 _).alt
  exact JH.out.turn ha (fun k _ e=>by rw[e,mi.out.ses.own];decide) fo) hq)
 unfold fL at DL hT;clear ej ju fo ak hu JH mi;go_wp2_with fail
 refine DL.out.mono ?_
 rintro e w3 ⟨rfl,col3,v3,dt,DC⟩;have e47:w3.cell? ⟨p,47,none⟩=some (.pointer v3.now):=dt.ses.blk.cell 47;have f47:=dt.ses.blk.frozen 47;obtain⟨kf,p9⟩:=dt.drop;have HB:=A6 (Qa (md:=1) kf (Bj.none_ _) (by omega))
 have YC:=A6 (hT.out _ _ (DC.trans p9));clear dt DC kf p9 hT DL;go_wp2_with fail
 refine HB.out.mono ?_
 rintro e w5 ⟨rfl,h5⟩;have H5:=A6 (C6.trans YC.out h5);clear h5;go_wp2_with fail
 go_end0
 exact⟨rfl,H5.out⟩
def Ps (s:PS)(hi:Hi)(line:List Int):PS:=Yc { s with hi:=hi } line 0
theorem uM {a d e:Value}{mo wh er:Int}{ol:Bool}{L:Value}(h:Dm w col p v s)(ey:er≠0)(hq:s.told.length≤1000000000000):
 Calls prog 80 #[.pointer (some ⟨p,0,none⟩),.agg #[a,mo,wh,d,e,ol],L,.int .i64 er] w fun e w'=>e=.returned (.tuple #[])∧C6 p w col (Ec s) w':=by
 have hx:=An.alloc w (.cells #[a,mo,wh,d,e,ol] 94);have HB:=A6 (Lf (h.ext hx) hq);have hT:Hid (Km w col _ col):=A6 ⟨hx.alt _,fun _ _ h=>h,fun _ _ h=>h⟩
 have VR:(er !=0)=true:=by simpa using ey
 clear h hx ey;go_enter func80,ntmps80
 go_wp2_with fail
 refine HB.out.mono ?_
 rintro e w1 ⟨rfl,h1⟩;have H1:=A6 (C6.trans hT.out h1);clear h1;go_wp2_with fail
 refine bodyPost_ret (results_none rfl _ _ _) rfl ⟨rfl,H1.out⟩
theorem uL {w0 w:World}{p m z:Nat}{A0 S0 P0 L:Option Addr}{n0 c0 sn sc pn pc:Nat}{hi:Hi}{line:List Int}(h:Dm w0 col p v s)(he:An w0 w)
 (hh:Dp w w0.heap.size (.agg #[.slice A0 n0 c0,hi.most,hi.at_,.slice S0 sn sc,.slice P0 pn pc,.bool hi.older]) hi) (hI:Ba w w0.heap.size L m z line) (hm:m≤4096):
 Calls prog 80 #[.pointer (some ⟨p,0,none⟩),.agg #[.slice A0 n0 c0,hi.most,hi.at_,.slice S0 sn sc,.slice P0 pn pc,.bool hi.older],.slice L m z,.int .i64 0] w fun e w'=>e=.returned (.tuple #[])∧C6 p w0 col (Ps s hi line) w':=by
 have hx:=An.alloc w (.cells #[.slice A0 n0 c0,hi.most,hi.at_,.slice S0 sn sc,.slice P0 pn pc,.bool hi.older] 94);have qk:=Aq.new w 94 #[.slice A0 n0 c0,.int .i64 hi.most,.int .i64 hi.at_,.slice S0 sn sc,.slice P0 pn pc,.bool hi.older];obtain⟨col1,dm,nh,bh⟩:=h.hist (he.trans hx) (hh.ext hx) (Nat.le_refl _);have hp:=h.ses.blk.ext (he.trans hx);have ae:=Nat.lt_of_lt_of_le h.ses.blk.lt he.hsize;have n1:¬p=w.heap.size:=by omega
 have n2:¬w.heap.size=p:=by omega
 have eb:p<w0.heap.size:=h.ses.blk.lt;have hIs:Bj (fL (w.alloc (.cells #[.slice A0 n0 c0,hi.most,hi.at_,.slice S0 sn sc,.slice P0 pn pc,.bool hi.older] 94)) p (.slice A0 n0 c0) (.int .i64 hi.most) (.int .i64 hi.at_) (.slice S0 sn sc) (.slice P0 pn pc) (.bool hi.older)) L m z line:=Ba.ints ((((((Bd.setCell (Ba.ext hI hx) (p:=⟨p,37,none⟩) eb _).setCell (p:=⟨p,38,none⟩) eb _).setCell (p:=⟨p,39,none⟩) eb _).setCell (p:=⟨p,40,none⟩) eb _).setCell (p:=⟨p,41,none⟩) eb _).setCell (p:=⟨p,42,none⟩) eb _);have HB:=A6 (Qa (md:=0) dm hIs hm);have HT:=A6 nh;unfold fL at HB HT;clear h he hh hx dm nh bh hIs hI;go_enter func80,ntmps80
 go_upto_region 1 with fail
 generalize w.alloc (.cells #[.slice A0 n0 c0,hi.most,hi.at_,.slice S0 sn sc,.slice P0 pn pc,.bool hi.older] 94)=W at*;obtain⟨x0,x1,x2,x3,x4,x5⟩:=Cu qk;have fz:=hp.frozen;have e37:W.cell? ⟨p,37,none⟩=some v.h0:=hp.cell 37;have e38:W.cell? ⟨p,38,none⟩=some (.int .i64 s.hi.most):=hp.cell 38;have e39:W.cell? ⟨p,39,none⟩=some (.int .i64 s.hi.at_):=hp.cell 39;have e40:W.cell? ⟨p,40,none⟩=some v.h3:=hp.cell 40;have e41:W.cell? ⟨p,41,none⟩=some v.h4:=hp.cell 41;have e42:W.cell? ⟨p,42,none⟩=some (.bool s.hi.older):=hp.cell 42;clear qk hp;go_wp2_with fail
 refine HB.out.mono ?_
 rintro e w1 ⟨rfl,h1⟩;have H1:=A6 (C6.trans HT.out h1);clear h1;go_wp2_with fail
 go_end0
 exact⟨rfl,H1.out⟩
end
