/-
  Part ZViG.
-/
import Derived.Test.YtkaefdmhlmlhbaaGreatZEdM
import Derived.Test.YtkaefdmhlmlhbaaGreatZViE
import Derived.Test.YtkaefdmhlmlhbaaGreatZViA
set_option maxRecDepth 100000
set_option maxHeartbeats 16000000
set_option linter.unusedVariables false
set_option linter.unusedSimpArgs false
namespace Go.Proofs.YtkaefdmhlmlhbaaGreat
open Go.RowKit
open _root_.List renaming getElem?_append_left→Bp,getElem?_append_right→Bu,getElem?_cons_succ→Ag,getElem?_cons_zero→Af,getElem?_take→Nw,getElem?_toArray→Ah,getElem_cons_succ→Ab,getElem_cons_zero→Aa,getElem_toArray→Ac,setIfInBounds_toArray→A7,set_cons_succ→Ae,set_cons_zero→Ad
open Value renaming int→At,slice→Ak
open _root_.And renaming intro→Bb
open _root_.Nat renaming le_refl→Aj
open Act renaming put→Ap
open AllReadyH renaming cons→Ai,nil→Am
open World renaming setCell→Bh
section
variable {col:Nat→Nat}{w w':World}{v:SV}{s:PS}{p base e z n c g:Nat}{xs:List Value}{l:List Int}{A B:Option Addr}{o:Option (List Int×Nat)}{cs:Array Value}
def grow (col:Nat→Nat)(a b c:Nat):Nat→Nat:=fun k=>if k<a then col k else if k<b then c else 0
theorem Jf {a b c k:Nat}(h1:a≤k)(h2:k<b):grow col a b c k=c:=by unfold grow;rw[if_neg (by omega),if_pos h2]
theorem V8 {a b c k:Nat}(h1:k<a):grow col a b c k=col k:=by unfold grow;rw[if_pos h1]
theorem Di.grow (h:Di w col p v s)(he:An w w')(c:Nat):Di w' (grow col w.heap.size w'.heap.size c) p v s∧Li w col w' (grow col w.heap.size w'.heap.size c):=by
 have ha:=he.alt fun _=>False
 have ho:∀k,k<w.heap.size→Go.Proofs.YtkaefdmhlmlhbaaGreat.grow col w.heap.size w'.heap.size c k=col k:=fun k hk=>V8 hk
 have hf:∀x,∀k,k<w.heap.size→False→col k≠x:=fun _ _ _ h=>h.elim
 refine⟨⟨⟨h.ses.blk.ext he,(ho p h.ses.blk.lt).trans h.ses.own,h.ses.dat.turn ha (hf 1) ho,h.ses.now.turn ha (fun k h1 h2=>h2.elim) ho,fun k hk=>?_⟩,h.told.turn ha (fun k h1 h2=>h2.elim) ho,h.vis.turn ha (hf 6) ho⟩,ha.mono fun _ _ h=>h.elim,fun k hk h2=>by rw[←ho k hk];exact h2,fun k hk e=>(ho k hk).trans e⟩
 unfold Go.Proofs.YtkaefdmhlmlhbaaGreat.grow at hk;split at hk
 ·exact Nat.lt_of_lt_of_le (by assumption) he.hsize
 ·split at hk
  ·assumption
  ·exact absurd rfl hk
theorem Di.chainD {D:World→Prop}(h:Di w col p v s)(hD:Hw (fun k=>col k=1) w D)(c:Dl w w' p 100 cs)(v':SV)(s':PS)(hc:cs=Mn v' s')
 (hd:∀w'',(∀x t,Bv w x t→Bv w'' x t)→D w''→VD w'' v s→VD w'' v' s')
 (e1:v'.now=v.now:=by rfl) (e2:s'.now=s.now:=by rfl) (e3:v'.told=v.told:=by rfl) (e4:s'.told=s.told:=by rfl) (e5:v'.vis=v.vis:=by rfl) (e6:s'.vis=s.vis:=by rfl):Di w' col p v' s'∧Li w col w' col:=by
 have hD':=hD.turn (col':=col) c.alt (fun k _ e=>by rw[e,h.ses.own];decide) fun _ _=>rfl
 exact h.put c.alt (hc▸c.blk) (fun M w'' h2 h3=>hd w'' (fun x t ht=>(ht.alt c.alt).alt h2) (hD' M w'' h2 h3) (h.old c.alt M w'' h2 h3)) e1 e2 e3 e4 e5 e6
def Qs (s:PS):PS:={ s with past:=(s.past++[(s.tx,s.at_)]).drop (s.past.length+1-30) }
theorem Un.save {w':World}{A':Option Addr}{n c':Nat}(hxl:xs.length=n*2)(hn:s.past.length=n)
 (hp:∀i,i<n→∃a,xs[i*2]? = some (.pointer a)∧xs[i*2+1]? = some (.int .i64 (gP s.past i).2)∧Bv w' a (Nj (gP s.past i).1)) (hb:n≤30) (ht:Bv w' v.tr (Nj s.tx))
 (ho:Bd w' 0 92 2 A' (min 30 (n+1)) c' (Nt n xs v.tr s.at_)):Un w' (.slice A' (min 30 (n+1)) c') (Qs s).past:=by
 refine⟨A',_,c',_,rfl,ho,?_,fun i hi=>?_⟩
 ·unfold Qs
  simp only[List.length_drop,List.length_append,List.length_singleton,hn];omega
 ·unfold Qs Nt
  have e:n+1-min 30 (n+1)=n+1-30:=by omega
  have hi2:n+1-30+i<n+1:=by omega
  have hg:gP ((s.past++[(s.tx,s.at_)]).drop (s.past.length+1-30)) i=gP (s.past++[(s.tx,s.at_)]) (n+1-30+i):=by
   unfold gP;rw[List.getElem?_drop,hn]
  have g1:∀k,(List.drop (2*(n+1-30)) (xs++[Value.pointer v.tr,At .i64 s.at_]))[k]? = (xs++[Value.pointer v.tr,At .i64 s.at_])[2*(n+1-30)+k]? := fun k=>List.getElem?_drop ..
  simp only[hg,g1];rcases Nat.lt_or_ge (n+1-30+i) n with hlt|hge
  ·obtain⟨a,k1,k2,k3⟩:=hp _ hlt
   have hg2:gP (s.past++[(s.tx,s.at_)]) (n+1-30+i)=gP s.past (n+1-30+i):=by unfold gP;rw[Bp (by omega)]
   rw[hg2];refine⟨a,?_,?_,k3⟩
   ·rw[Bp (by omega),←k1];congr 1;omega
   ·rw[Bp (by omega),←k2];congr 1;omega
  ·have hin:n+1-30+i=n:=by omega
   have hg2:gP (s.past++[(s.tx,s.at_)]) (n+1-30+i)=(s.tx,s.at_):=by unfold gP;rw[hin,←hn];simp
   rw[hg2];refine⟨v.tr,?_,?_,ht⟩
   ·rw[Bu (by omega),show 2*(n+1-30)+i*2-xs.length=0 by omega];rfl
   ·rw[Bu (by omega),show 2*(n+1-30)+(i*2+1)-xs.length=1 by omega];rfl
theorem gY (h:Di w col p v s)(hb:s.past.length≤30):
 Calls Tryz.prog 139 #[.pointer (some ⟨p,0,none⟩)] w fun e w'=>e=.returned (.tuple #[])∧Bx p w col (Qs s) w':=by
 have hd:=h.ses.dat.here;obtain⟨A,n,c,xs,hv,ho,hn,hp⟩:=hd.past;have hone:∀u∈xs,u.oneCell'=true:=fun u hu=>by
  exact I22
 have hbl:=h.ses.blk;have fz:=hbl.frozen;have d0:w.cell? ⟨p,0,none⟩=some (.pointer v.tr):=hbl.cell 0;have d1:w.cell? ⟨p,1,none⟩=some (.int .i64 s.at_):=hbl.cell 1;have d43:w.cell? ⟨p,43,none⟩=some (.slice A n c):=(hbl.cell 43).trans (congrArg some hv);have d44:w.cell? ⟨p,44,none⟩=some nl:=hbl.cell 44;have HC:=A6 (J0r (q:=v.tr) (a:=s.at_) ((Bd.rd ho).ext (An.drew w)) hone (Bd.nocap' ho) (by omega))
 have H:=A6 h;go_enter Tryz.func139,Tryz.ntmps139
 go_region_law (first
  |(
   refine Cg rfl 164 #[.agg #[.slice A n c,.slice none 0 0],.int .i64 30,.agg #[.pointer v.tr,.int .i64 s.at_]] rfl (by kernel_rfl) (fun u w'=>∃A' c',u=.agg #[.slice A' (min 30 (n+1)) c',.slice none 0 0]∧Bd w' w.drew.heap.size 92 2 A' (min 30 (n+1)) c' (Nt n xs v.tr s.at_)) (HC.out.mono fun e w' ⟨A',c',h1,h2,h3⟩=>⟨_,h1,⟨A',c',rfl,h2⟩,h3⟩) ?_
   rintro u w2 ⟨A',c',rfl,ho2⟩ hE;have hb2:=(H.out.ses.blk.ext (An.drew w)).ext hE;have e43:w2.cell? ⟨p,43,none⟩=some v.past:=hb2.cell 43;have e44:w2.cell? ⟨p,44,none⟩=some nl:=hb2.cell 44;have f2:=hb2.frozen))
 all_goals
  have HR:Hid (Bx p w col (Qs s) ((w2.setCell ⟨p,43,none⟩ (.slice A' (min 30 (n+1)) c')).setCell ⟨p,44,none⟩ nl)):=A6 (by
   have hEw:An w w2:=(An.drew w).trans hE;obtain⟨hm,ht⟩:=H.out.grow hEw 1;have hD:Hw (fun k=>grow col w.heap.size w2.heap.size 1 k=1) w2 fun w=>Bd w 0 92 2 A' (min 30 (n+1)) c' (Nt n xs v.tr s.at_):=
    Hw.own (Bd.lower ho2 (Nat.zero_le _)) fun g hg=>Jf (Bd.blk ho2 g hg).1 (Bd.blk ho2 g hg).2
   have c:=((Dl.start (An.refl w2) hm.ses.blk).set 43 (.slice A' (min 30 (n+1)) c')).set 44 nl;have hr:=hm.chainD hD c { v with past:=.slice A' (min 30 (n+1)) c' } (Qs s) (by kernel_rfl) fun w'' htr ho' hd'=>⟨hd'.1,hd'.2,hd'.3,hd'.4,Un.save ho.len hn (fun i hi=>let ⟨a,k1,k2,k3⟩:=hp i hi;⟨a,k1,k2,htr _ _ (Bv.ext hEw k3)⟩) (by omega) hd'.tr ho',hd'.6,hd'.7,hd'.8⟩
   exact⟨_,_,hr.1,ht.trans hr.2⟩)
  clear h hd hb hp hone hbl H HC hE ho2 hb2 hv ho hn;go_wp2_with fail
  go_end0
  exact⟨rfl,HR.out⟩
theorem Uy (h:l.length≤4096):(Nj l).toL=l∧(Nj l).sz=l.length:=by
 unfold Nj;rw[if_pos h];obtain⟨_,h2⟩:=Lb l.length l (Aj _);have h3:(Tr.build l).toL.length=(Tr.build l).sz:=Tr.len _;have h2:(Tr.build l).toL=l:=h2;rw[h2]at h3;exact⟨h2,h3.symm⟩
theorem Gj {a:Option Addr}(h:Bv w a (Nj l))(hl:l.length≤4096):
 Calls Tryz.prog 53 #[.agg #[.pointer a]] w fun e w'=>∃v,e=.returned v∧(∃A c,v=.slice A l.length c∧Av w' w.heap.size A l.length c l)∧An w w':=by
 obtain⟨h1,h2⟩:=Uy hl;refine(vF h (by omega)).mono ?_
 rintro e w' ⟨A,c,rfl,ho,he⟩;rw[h1,h2]at*;exact⟨_,rfl,⟨A,c,rfl,ho⟩,he⟩
theorem U8 (h:Di w col p v s)(hl:s.tx.length≤4096):
 Calls Tryz.prog 34 #[.pointer (some ⟨p,0,none⟩)] w fun e w'=>∃u,e=.returned u∧(∃A n c,u=.agg #[.slice A n c,.int .i64 s.at_]∧Av w' w.heap.size A n c s.tx)∧An w w':=by
 have hx:=An.alloc w (.cells #[.slice none 0 0,.int .i64 0] 32);have hb:=Aq.new w 32 #[.slice none 0 0,.int .i64 0];have hp:=h.ses.blk.ext hx;have ht:=Bv.ext hx h.ses.dat.here.tr;have HC:=A6 (Gj (Bv.ext (An.drew _) ht) hl);have hlt:=h.ses.blk.lt;have HX:=A6 hx;have HB:=A6 hb;have HP:=A6 hp;clear h hx ht hb;go_enter Tryz.func34,Tryz.ntmps34
 go_upto_region 1 with fail
 generalize w.alloc (.cells #[.slice none 0 0,.int .i64 0] 32)=W at*;have d0:W.cell? ⟨p,0,none⟩=some (.pointer v.tr):=hp.cell 0;have d1:W.cell? ⟨p,1,none⟩=some (.int .i64 s.at_):=hp.cell 1;clear hp;go_region_law (first
  |(
   refine Cg rfl 53 #[.agg #[.pointer v.tr]] rfl (by kernel_rfl) (fun u w'=>∃A c,u=.slice A s.tx.length c∧Av w' W.drew.heap.size A s.tx.length c s.tx) HC.out ?_
   rintro u w2 ⟨A,c,rfl,ho2⟩ hE;have hb2:=(HB.out.ext (An.drew W)).ext hE;have hp2:=(HP.out.ext (An.drew W)).ext hE;have e0:=hb2.cell 0;have e1:=hb2.cell 1;have f0:=hb2.frozen 0;have f1:=hb2.frozen 1;have g1:w2.cell? ⟨p,1,none⟩=some (.int .i64 s.at_):=hp2.cell 1;simp only[List.getElem?_toArray,List.getElem?_cons_zero,List.getElem?_cons_succ]at e0 e1))
 all_goals
  have hz:w.heap.size<W.heap.size:=HB.out.lt;have HR:=A6 (Bb (Pk hb2 (.slice A s.tx.length c) (.int .i64 s.at_)) (Bb (U2 ho2 hz (.slice A s.tx.length c) (.int .i64 s.at_)) (Pj (HX.out.trans ((An.drew W).trans hE)) (Aj _) (.slice A s.tx.length c) (.int .i64 s.at_))));unfold tH at HR;clear HC HX HB HP hE ho2 hb2 hp2;go_wp2_with fail
  refine bodyPost_ret (Kr rfl _ _ _ _ _ _ _ rfl HR.out.1 Tryz.underlying32 rfl (by kernel_rfl)) rfl ⟨_,rfl,⟨A,_,c,rfl,Bd.lower HR.out.2.1 (Nat.le_of_lt hz)⟩,HR.out.2.2⟩
def G8 (s:PS):PS:={ s with told:=s.told++[(1,[])] }
def Ln (s:PS):PS:=bif Zm s.tx s.first then G8 s else { Qs s with tx:=s.first,at_:=0 }
theorem lQ (h:Di w col p v s):
 Di ((w.setCell ⟨p,0,none⟩ (.pointer v.first)).setCell ⟨p,1,none⟩ (.int .i64 0)) col p { v with tr:=v.first } { s with tx:=s.first,at_:=0 }∧Li w col ((w.setCell ⟨p,0,none⟩ (.pointer v.first)).setCell ⟨p,1,none⟩ (.int .i64 0)) col:=
 h.chain (((Dl.start (An.refl w) h.ses.blk).set 0 (.pointer v.first)).set 1 (.int .i64 0)) _ _ (by kernel_rfl) fun w'' _ ht hd=>⟨hd.2,hd.2,hd.3,hd.4,hd.5,hd.6,hd.7,hd.8⟩
theorem jY (h:Di w col p v s)(h1:s.tx.length≤4096)(h2:s.first.length≤4096)(h3:s.past.length≤30)(hq:s.told.length≤1000000000000):
 Calls Tryz.prog 93 #[.pointer (some ⟨p,0,none⟩)] w fun e w'=>e=.returned (.tuple #[])∧Bx p w col (Ln s) w':=by
 have hb:=h.ses.blk;have hd:=h.ses.dat.here;have d0:w.cell? ⟨p,0,none⟩=some (.pointer v.tr):=hb.cell 0;have d45:w.cell? ⟨p,45,none⟩=some (.pointer v.first):=hb.cell 45;have HC1:=A6 (Gj (Bv.ext (An.drew w) hd.tr) h1);have HC2:Hid (∀wq,An w wq→_):=A6 fun wq he=>Gj (Bv.ext he hd.first) h2
 have HBL:Hid (∀wq,An w wq→_):=A6 fun wq he=>Kp (h.ext he) hq
 have HSV:Hid (∀wq,An w wq→_):=A6 fun wq he=>gY (h.ext he) h3
 have HB:=A6 hb;have HT:Hid (∀wq,An w wq→Li w col wq col):=A6 fun wq he=>⟨he.alt _,fun _ _ h=>h,fun _ _ h=>h⟩
 clear h hd hb;go_enter Tryz.func93,Tryz.ntmps93
 go_upto_region 0 with fail
 go_region_law (first
  |(
   refine Cg rfl 12 #[.slice A _ c,.slice A2 _ c2] rfl (by kernel_rfl) (fun u w'=>u=.bool (Zm s.tx s.first)) ((Sv (Av.ints (Av.ext o1 hE2)) (Av.ints o2)).mono fun e w' ⟨h1,h2⟩=>⟨_,h1,rfl,h2⟩) ?_
   rintro u w4 rfl hE3)
  |(
   refine Cg rfl 53 #[.agg #[.pointer v.first]] rfl (by kernel_rfl) (fun u w'=>∃A c,u=.slice A s.first.length c∧Av w' w2.heap.size A s.first.length c s.first) (HC2.out _ hEw) ?_
   rintro u w3 ⟨A2,c2,rfl,o2⟩ hE2)
  |(
   refine Cg rfl 53 #[.agg #[.pointer v.tr]] rfl (by kernel_rfl) (fun u w'=>∃A c,u=.slice A s.tx.length c∧Av w' w.drew.heap.size A s.tx.length c s.tx) HC1.out ?_
   rintro u w2 ⟨A,c,rfl,o1⟩ hE;have hEw:An w w2:=(An.drew w).trans hE;have g45:w2.cell? ⟨p,45,none⟩=some (.pointer v.first):=(HB.out.ext hEw).cell 45))
 all_goals
  have hX:=A6 (hEw.trans (hE2.trans hE3));clear o1 o2 hE hE2 hE3 hEw HC1 HC2;cases heq:Zm s.tx s.first
  ·go_wp2_with fail
   refine(HSV.out _ hX.out).mono ?_
   rintro e w5 ⟨rfl,col5,v5,hm,ht⟩;have hb5:=hm.ses.blk;have e0:w5.cell? ⟨p,0,none⟩=some (.pointer v5.tr):=hb5.cell 0;have e1:w5.cell? ⟨p,1,none⟩=some (.int .i64 s.at_):=hb5.cell 1;have e45:w5.cell? ⟨p,45,none⟩=some (.pointer v5.first):=hb5.cell 45;have fz:=hb5.frozen;have HM:=A6 (lQ hm);have HT5:=A6 ((HT.out _ hX.out).trans ht);clear hm ht hb5;go_wp2_with fail
   go_end0
   refine⟨rfl,?_⟩
   unfold Ln;rw[heq];exact⟨_,_,HM.out.1,HT5.out.trans HM.out.2⟩
  ·go_wp2_with fail
   refine(HBL.out _ hX.out).mono ?_
   rintro e w5 ⟨rfl,hm⟩;have HM:=A6 (Bx.trans (HT.out _ hX.out) hm);clear hm;go_wp2_with fail
   refine bodyPost_ret (results_none rfl _ _ _) rfl ?_
   refine⟨rfl,?_⟩
   unfold Ln;rw[heq];exact HM.out
theorem Fo {g g' t t':Nat}{cs cs':Array Value}(h:Aq w g t cs)(h':Aq w g' t' cs')(hne:t≠t'):g≠g':=fun e=>by
 subst e;exact hne (h.inj h').1
theorem zV (h:Bd w base e z A n c xs)(hg:g<base):∀k,(Ak A n c).ownBlock=some k→k≠g:=fun k hk=>by have:=(Bd.blk h k hk).1;omega
theorem uX (h:Bd w base e z A n c xs)(hg:w.heap.size≤g):∀k,(Ak A n c).ownBlock=some k→k≠g:=fun k hk=>by have:=(Bd.blk h k hk).2;omega
theorem pY (h:Bd w base e z A n c xs)(hn:∀k,(Ak A n c).ownBlock=some k→k≠g)(a b:Value):Bd ((w.setCell ⟨g,0,none⟩ a).setCell ⟨g,1,none⟩ b) base e z A n c xs:=
 Bd.same h fun k hk=>by rw[Cn (hn k hk),Cn (hn k hk)]
def Jx (s:PS):PS:=if s.past.length=0 then G8 s else { s with past:=s.past.take (s.past.length-1),tx:=(gP s.past (s.past.length-1)).1,at_:=(gP s.past (s.past.length-1)).2 }
theorem Bx.ext {w w1 w2:World}{s':PS}(h:Bx p w col s' w1)(he:An w1 w2):Bx p w col s' w2:=
 let ⟨c,v,h1,h2⟩:=h;⟨c,v,h1.ext he,h2.1.ext he,h2.2,h2.3⟩
theorem xM {p a b:Nat}(h:p<a)(h2:a≤b):¬p=b:=by omega
theorem sS {w W:World}{p n d:Nat}{B r:Option Addr}(h:Di w col p v s)(hn:s.past.length=n+1)(he:An w W)(hxl:xs.length=(n+1)*2)
 (hp:∀i,i<n+1→∃a,xs[i*2]? = some (.pointer a)∧xs[i*2+1]? = some (.int .i64 (gP s.past i).2)∧Bv w a (Nj (gP s.past i).1)) (k3:Bv w r (Nj (gP s.past n).1)) (ho:Bd W w.heap.size 92 2 B n d (xs.take (n*2))):
 Bx p w col (Jx s) ((((W.setCell ⟨p,43,none⟩ (.slice B n d)).setCell ⟨p,44,none⟩ nl).setCell ⟨p,0,none⟩ (.pointer r)).setCell ⟨p,1,none⟩ (.int .i64 (gP s.past n).2)):=by
 obtain⟨hm,ht⟩:=h.grow he 1;have hD:Hw (fun k=>grow col w.heap.size W.heap.size 1 k=1) W fun w=>Bd w 0 92 2 B n d (xs.take (n*2)):=
  Hw.own (Bd.lower ho (Nat.zero_le _)) fun g hg=>Jf (Bd.blk ho g hg).1 (Bd.blk ho g hg).2
 have c:=((((Dl.start (An.refl W) hm.ses.blk).set 43 (.slice B n d)).set 44 nl).set 0 (.pointer r)).set 1 (.int .i64 (gP s.past n).2);have e:Jx s={ s with past:=s.past.take n,tx:=(gP s.past n).1,at_:=(gP s.past n).2 }:=by
  unfold Jx;rw[if_neg (by omega),hn]
  rfl
 rw[e];have hr:=hm.chainD hD c { v with past:=.slice B n d,tr:=r } { s with past:=s.past.take n,tx:=(gP s.past n).1,at_:=(gP s.past n).2 } (by kernel_rfl) fun w'' htr ho' hd'=>⟨htr _ _ (Bv.ext he k3),hd'.2,hd'.3,hd'.4,⟨B,n,d,_,rfl,ho',by rw[List.length_take];omega,fun i hi=>?_⟩,hd'.6,hd'.7,hd'.8⟩
 ·exact⟨_,_,hr.1,ht.trans hr.2⟩
 ·obtain⟨a,k1,k2,k3⟩:=hp i (by omega)
  have hg:gP (s.past.take n) i=gP s.past i:=by unfold gP;rw[Nw,if_pos hi]
  rw[hg];exact⟨a,by rw[Nw,if_pos (by omega)];exact k1,by rw[Nw,if_pos (by omega)];exact k2,htr _ _ (Bv.ext he k3)⟩
theorem wY (h:Di w col p v s)(h3:s.past.length≤30)(hq:s.told.length≤1000000000000):
 Calls Tryz.prog 92 #[.pointer (some ⟨p,0,none⟩)] w fun e w'=>e=.returned (.tuple #[])∧Bx p w col (Jx s) w':=by
 have hd:=h.ses.dat.here;obtain⟨A,n,c,xs,hv,ho,hn,hp⟩:=hd.past;have hbl:=h.ses.blk;have HB:Hid (∀wq,An w wq→wq.cell? ⟨p,0,none⟩=some (.pointer v.tr)∧wq.cell? ⟨p,1,none⟩=some (.int .i64 s.at_)∧wq.cell? ⟨p,43,none⟩=some (.slice A n c)∧wq.cell? ⟨p,44,none⟩=some nl):=
  A6 fun wq he=>⟨(hbl.ext he).cell 0,(hbl.ext he).cell 1,((hbl.ext he).cell 43).trans (congrArg some hv),(hbl.ext he).cell 44⟩
 have HBL:Hid (∀wq,An w wq→_):=A6 fun wq he=>Kp (h.ext he) hq
 have HT:Hid (∀wq,An w wq→Li w col wq col):=A6 fun wq he=>⟨he.alt _,fun _ _ h=>h,fun _ _ h=>h⟩
 have H:=A6 h;have HP:=A6 hp;have HN:=A6 hn;have HO:=A6 ho;have HV:=A6 hv;rcases n with _|n
 ·have HC:Hid (∀wq,An w wq→Calls Tryz.prog 140 #[.agg #[.slice A 0 c,.slice none 0 0],.agg #[.pointer v.tr,.int .i64 s.at_]] wq fun e w'=>
   ∃u,e=.returned u∧(∃B d,u=.tuple #[.agg #[.slice B 0 d,.slice none 0 0],.agg #[.pointer v.tr,.int .i64 s.at_],.bool false])∧An wq w'):=
   A6 fun wq he=>(sU (Rd.nmax (Bd.rd ho)) (Bd.nocap' ho)).mono fun e w' ⟨⟨B,d,h1⟩,h3⟩=>⟨_,h1,⟨B,d,rfl⟩,h3⟩
  have hlt:=hbl.lt;clear h hd hv ho hn hp hbl;go_enter Tryz.func92,Tryz.ntmps92
  go_upto_region 0 with fail
  refine wp_region_held_drew (S:=fun w'=>An w w') (by kernel_rfl) (An.drew w) (fun hS=>?_)
  refine Bf (i:=0) (v:=(.pointer (some ⟨p,0,none⟩))) rfl hS ?_
  refine Bf (i:=1) (v:=(.pointer (some ⟨p,0,none⟩))) rfl hS ?_
  refine Bf (i:=2) (v:=(.pointer (some ⟨p,43,none⟩))) rfl hS ?_
  refine Fs (i:=3) (v:=(.agg #[.slice A 0 c,nl])) rfl (fun w' hSw=>by obtain⟨_,_,e0,e1⟩:=HB.out _ hSw;go_simp) hS ?_
  refine Bf (i:=4) (v:=(.pointer (some ⟨p,0,none⟩))) rfl hS ?_
  refine Bf (i:=5) (v:=(.pointer (some ⟨p,0,none⟩))) rfl hS ?_
  refine Bf (i:=6) (v:=(.pointer (some ⟨p,0,none⟩))) rfl hS ?_
  refine Fs (i:=7) (v:=(.agg #[.pointer v.tr,.int .i64 s.at_])) rfl (fun w' hSw=>by obtain⟨e0,e1,_,_⟩:=HB.out _ hSw;go_simp) hS ?_
  generalize w.drew=cur at*
  iterate 3
   all_goals (first|refine wpAnyH_ready (rs:=[8,13,14]) (by decide +kernel) (by simp) (Ai rfl (fun K hK=>?_) (Ai rfl (fun K hK=>?_) (Ai rfl (fun K hK=>?_) Am)))|refine wpAnyH_ready (rs:=[8,13]) (by decide +kernel) (by simp) (Ai rfl (fun K hK=>?_) (Ai rfl (fun K hK=>?_) Am))|refine wpAnyH_ready (rs:=[8,14]) (by decide +kernel) (by simp) (Ai rfl (fun K hK=>?_) (Ai rfl (fun K hK=>?_) Am))|refine wpAnyH_ready (rs:=[13,14]) (by decide +kernel) (by simp) (Ai rfl (fun K hK=>?_) (Ai rfl (fun K hK=>?_) Am))|refine wpAnyH_ready (rs:=[8]) (by decide +kernel) (by simp) (Ai rfl (fun K hK=>?_) Am)|refine wpAnyH_ready (rs:=[13]) (by decide +kernel) (by simp) (Ai rfl (fun K hK=>?_) Am)|refine wpAnyH_ready (rs:=[14]) (by decide +kernel) (by simp) (Ai rfl (fun K hK=>?_) Am))
   all_goals (first
    |(
     refine Cg rfl 140 _ rfl (by kernel_rfl) (fun u w'=>∃B d,u=.tuple #[.agg #[.slice B 0 d,.slice none 0 0],.agg #[.pointer v.tr,.int .i64 s.at_],.bool false]) (HC.out _ hS) ?_
     rintro u w2 ⟨B,d,rfl⟩ hE;refine hK.out _ _ (hS.trans hE) (fun hS'=>?_)
     clear hK K
     try replace hb2:=Aq.ext hb2 hE
     try replace hb3:=Aq.ext hb3 hE
     replace hS:=hS';clear hS' hE
     try simp only[Ac,Aa,Ab,Ap,A7,Ad,Ae]
     refine Bf (i:=9) (v:=.tuple #[.agg #[.slice B 0 d,.slice none 0 0],.agg #[.pointer v.tr,.int .i64 s.at_],.bool false]) rfl hS ?_
     refine Bf (i:=10) (v:=.agg #[.slice B 0 d,.slice none 0 0]) rfl hS ?_
     refine Bf (i:=11) (v:=.agg #[.pointer v.tr,.int .i64 s.at_]) rfl hS ?_
     refine wpAnyH_take (i:=12) (v:=.bool false) rfl (by kernel_rfl) (by kernel_rfl) (by kernel_rfl) (fun _ _ _ h=>h) (Or.inl ⟨by rfl,by(intro w' hSw;go_simp)⟩) hS ?_
     try simp only[Ac,Aa,Ab,Ap,A7,Ad,Ae])
    |(
     go_simp
     refine hK.out _ _ (hS.to_alloc (.cells #[.slice none 0 0,.slice none 0 0] 97)) (fun hS'=>?_)
     clear hK K;have hE:=Lz hS'
     try replace hb3:=Aq.ext hb3 hE
     have hb2:=iY hS';have hz2:=hS.hsize;replace hS:=hS';clear hS' hE;generalize World.alloc _ _=nx at*
     try simp only[Ac,Aa,Ab,Ap,A7,Ad,Ae])
    |(
     go_simp
     refine hK.out _ _ (hS.to_alloc (.cells #[.pointer none,.int .i64 0] 92)) (fun hS'=>?_)
     clear hK K;have hE:=Lz hS'
     try replace hb2:=Aq.ext hb2 hE
     have hb3:=iY hS';have hz3:=hS.hsize;replace hS:=hS';clear hS' hE;generalize World.alloc _ _=nx at*
     try simp only[Ac,Aa,Ab,Ap,A7,Ad,Ae]))
  all_goals
   have e20:=hb2.cell 0;have e21:=hb2.cell 1;have f20:=hb2.frozen 0;have f21:=hb2.frozen 1;simp only[Ah,Af,Ag]at e20 e21;refine wpAnyH_ready (rs:=[15]) (by decide +kernel) (by simp) (Ai rfl (fun K hK=>?_) Am)
   go_simp
   have hg2:=hb2.lt;have hg3:=hb3.lt;have hb3':=Ee hb3 (Fo hb2 hb3 (by decide)) (.slice B 0 d) (.slice none 0 0)
   have hb2':=Dr hb2 (.slice B 0 d) (.slice none 0 0);have hS':=Dq hS hz2 (.slice B 0 d) (.slice none 0 0);clear e20 e21 f20 f21 hb2 hb3 hS;generalize Bh (Bh _ _ _) _ _=W4 at*;refine hK.out _ _ hS' (fun hS=>?_)
   clear hK K hS'
   try simp only[Ac,Aa,Ab,Ap,A7,Ad,Ae]
   have e20:=hb3'.cell 0;have e21:=hb3'.cell 1;have f20:=hb3'.frozen 0;have f21:=hb3'.frozen 1;simp only[Ah,Af,Ag]at e20 e21;refine wpAnyH_ready (rs:=[16]) (by decide +kernel) (by simp) (Ai rfl (fun K hK=>?_) Am)
   go_simp
   have hb2:=Ee hb2' (Fo hb3' hb2' (by decide)) (.pointer v.tr) (.int .i64 s.at_)
   have hb3:=Dr hb3' (.pointer v.tr) (.int .i64 s.at_);have hS':=Dq hS hz3 (.pointer v.tr) (.int .i64 s.at_);clear e20 e21 f20 f21 hb2' hb3' hS;generalize Bh (Bh _ _ _) _ _=W5 at*;refine hK.out _ _ hS' (fun hS=>?_)
   clear hK K hS'
   try simp only[Ac,Aa,Ab,Ap,A7,Ad,Ae]
   refine wpAnyH_ready (rs:=[17]) (by decide +kernel) (by simp) (Ai rfl (fun K hK=>?_) Am)
   go_simp
   refine hK.out _ _ hS (fun _=>?_)
   clear hK K;refine wpAnyH_done (by kernel_rfl) ?_ _
   go_wp2_with fail
   refine(HBL.out _ hS).mono ?_
   rintro e w6 ⟨rfl,hm⟩;have HM:=A6 (Bx.trans (HT.out _ hS) hm);clear hm hS hb2 hb3 hz2 hz3;go_wp2_with fail
   refine bodyPost_ret (results_none rfl _ _ _) rfl ⟨rfl,?_⟩
   unfold Jx;rw[if_pos HN.out];exact HM.out
 ·obtain⟨r,k1,k2,k3⟩:=hp n (by omega)
  have hone:∀u∈xs,u.oneCell'=true:=fun u hu=>by
   exact I22
  have HC:Hid (∀wq,An w wq→Calls Tryz.prog 140 #[.agg #[.slice A (n+1) c,.slice none 0 0],.agg #[.pointer v.tr,.int .i64 s.at_]] wq fun e w'=>
   ∃u,e=.returned u∧(∃B d F f,u=.tuple #[.agg #[.slice B n d,.slice F 1 f],.agg #[.pointer r,.int .i64 (gP s.past n).2],.bool true]∧Bd w' wq.heap.size 92 2 B n d (xs.take (n*2)))∧An wq w'):=
   A6 fun wq he=>(sT ((Bd.rd ho).ext he) hone (by omega) k1 k2).mono fun e w' ⟨B,d,F,f,h1,h2,h3⟩=>⟨_,h1,⟨B,d,F,f,rfl,h2⟩,h3⟩
  have hlt:=hbl.lt;clear h hd hv ho hn hp hbl hone k1 k2;go_enter Tryz.func92,Tryz.ntmps92
  go_upto_region 0 with fail
  refine wp_region_held_drew (S:=fun w'=>An w w') (by kernel_rfl) (An.drew w) (fun hS=>?_)
  refine Bf (i:=0) (v:=(.pointer (some ⟨p,0,none⟩))) rfl hS ?_
  refine Bf (i:=1) (v:=(.pointer (some ⟨p,0,none⟩))) rfl hS ?_
  refine Bf (i:=2) (v:=(.pointer (some ⟨p,43,none⟩))) rfl hS ?_
  refine Fs (i:=3) (v:=(.agg #[.slice A (n+1) c,nl])) rfl (fun w' hSw=>by obtain⟨_,_,e0,e1⟩:=HB.out _ hSw;go_simp) hS ?_
  refine Bf (i:=4) (v:=(.pointer (some ⟨p,0,none⟩))) rfl hS ?_
  refine Bf (i:=5) (v:=(.pointer (some ⟨p,0,none⟩))) rfl hS ?_
  refine Bf (i:=6) (v:=(.pointer (some ⟨p,0,none⟩))) rfl hS ?_
  refine Fs (i:=7) (v:=(.agg #[.pointer v.tr,.int .i64 s.at_])) rfl (fun w' hSw=>by obtain⟨e0,e1,_,_⟩:=HB.out _ hSw;go_simp) hS ?_
  generalize w.drew=cur at*
  iterate 3
   all_goals (first|refine wpAnyH_ready (rs:=[8,13,14]) (by decide +kernel) (by simp) (Ai rfl (fun K hK=>?_) (Ai rfl (fun K hK=>?_) (Ai rfl (fun K hK=>?_) Am)))|refine wpAnyH_ready (rs:=[8,13]) (by decide +kernel) (by simp) (Ai rfl (fun K hK=>?_) (Ai rfl (fun K hK=>?_) Am))|refine wpAnyH_ready (rs:=[8,14]) (by decide +kernel) (by simp) (Ai rfl (fun K hK=>?_) (Ai rfl (fun K hK=>?_) Am))|refine wpAnyH_ready (rs:=[13,14]) (by decide +kernel) (by simp) (Ai rfl (fun K hK=>?_) (Ai rfl (fun K hK=>?_) Am))|refine wpAnyH_ready (rs:=[8]) (by decide +kernel) (by simp) (Ai rfl (fun K hK=>?_) Am)|refine wpAnyH_ready (rs:=[13]) (by decide +kernel) (by simp) (Ai rfl (fun K hK=>?_) Am)|refine wpAnyH_ready (rs:=[14]) (by decide +kernel) (by simp) (Ai rfl (fun K hK=>?_) Am))
   all_goals (first
    |(
     refine Cg rfl 140 _ rfl (by kernel_rfl) (fun u w'=>∃B d F f,u=.tuple #[.agg #[.slice B n d,.slice F 1 f],.agg #[.pointer r,.int .i64 (gP s.past n).2],.bool true]∧Bd w' (World.heap _).size 92 2 B n d (xs.take (n*2))) (HC.out _ hS) ?_
     rintro u w2 ⟨B,d,F,f,rfl,hoB⟩ hE;refine hK.out _ _ (hS.trans hE) (fun hS'=>?_)
     clear hK K
     try have hn3:=zV hoB hb3.lt
     replace hoB:=Bd.lower hoB hS.hsize
     try replace hb2:=Aq.ext hb2 hE
     try replace hb3:=Aq.ext hb3 hE
     replace hS:=hS';clear hS' hE
     try simp only[Ac,Aa,Ab,Ap,A7,Ad,Ae]
     refine Bf (i:=9) (v:=.tuple #[.agg #[.slice B n d,.slice F 1 f],.agg #[.pointer r,.int .i64 (gP s.past n).2],.bool true]) rfl hS ?_
     refine Bf (i:=10) (v:=.agg #[.slice B n d,.slice F 1 f]) rfl hS ?_
     refine Bf (i:=11) (v:=.agg #[.pointer r,.int .i64 (gP s.past n).2]) rfl hS ?_
     refine wpAnyH_take (i:=12) (v:=.bool true) rfl (by kernel_rfl) (by kernel_rfl) (by kernel_rfl) (fun _ _ _ h=>h) (Or.inl ⟨by rfl,by(intro w' hSw;go_simp)⟩) hS ?_
     try simp only[Ac,Aa,Ab,Ap,A7,Ad,Ae])
    |(
     go_simp
     refine hK.out _ _ (hS.to_alloc (.cells #[.slice none 0 0,.slice none 0 0] 97)) (fun hS'=>?_)
     clear hK K;have hE:=Lz hS'
     try replace hb3:=Aq.ext hb3 hE
     try replace hoB:=Bd.ext hoB hE
     have hb2:=iY hS';have hz2:=hS.hsize;replace hS:=hS';clear hS' hE;generalize World.alloc _ _=nx at*
     try simp only[Ac,Aa,Ab,Ap,A7,Ad,Ae])
    |(
     go_simp
     refine hK.out _ _ (hS.to_alloc (.cells #[.pointer none,.int .i64 0] 92)) (fun hS'=>?_)
     clear hK K;have hE:=Lz hS'
     try replace hb2:=Aq.ext hb2 hE
     try have hn3:=uX hoB (Nat.le_refl _)
     try replace hoB:=Bd.ext hoB hE
     have hb3:=iY hS';have hz3:=hS.hsize;replace hS:=hS';clear hS' hE;generalize World.alloc _ _=nx at*
     try simp only[Ac,Aa,Ab,Ap,A7,Ad,Ae]))
  all_goals
   have e20:=hb2.cell 0;have e21:=hb2.cell 1;have f20:=hb2.frozen 0;have f21:=hb2.frozen 1;simp only[Ah,Af,Ag]at e20 e21;refine wpAnyH_ready (rs:=[15]) (by decide +kernel) (by simp) (Ai rfl (fun K hK=>?_) Am)
   go_simp
   have hg2:=hb2.lt;have hg3:=hb3.lt;have hb3':=Ee hb3 (Fo hb2 hb3 (by decide)) (.slice B n d) (.slice F 1 f)
   have hb2':=Dr hb2 (.slice B n d) (.slice F 1 f);have hoB':=Jd hoB hb2 (by decide) (.slice B n d) (.slice F 1 f)
   have hS':=Dq hS hz2 (.slice B n d) (.slice F 1 f);clear e20 e21 f20 f21 hb2 hb3 hoB hS;generalize Bh (Bh _ _ _) _ _=W4 at*;refine hK.out _ _ hS' (fun hS=>?_)
   clear hK K hS'
   try simp only[Ac,Aa,Ab,Ap,A7,Ad,Ae]
   have e20:=hb3'.cell 0;have e21:=hb3'.cell 1;have f20:=hb3'.frozen 0;have f21:=hb3'.frozen 1;simp only[Ah,Af,Ag]at e20 e21;refine wpAnyH_ready (rs:=[16]) (by decide +kernel) (by simp) (Ai rfl (fun K hK=>?_) Am)
   go_simp
   have hb2:=Ee hb2' (Fo hb3' hb2' (by decide)) (.pointer r) (.int .i64 (gP s.past n).2)
   have hb3:=Dr hb3' (.pointer r) (.int .i64 (gP s.past n).2);have hoB:=pY hoB' hn3 (.pointer r) (.int .i64 (gP s.past n).2);have hS':=Dq hS hz3 (.pointer r) (.int .i64 (gP s.past n).2);clear e20 e21 f20 f21 hb2' hb3' hoB' hS;generalize Bh (Bh _ _ _) _ _=W5 at*;refine hK.out _ _ hS' (fun hS=>?_)
   clear hK K hS'
   try simp only[Ac,Aa,Ab,Ap,A7,Ad,Ae]
   refine wpAnyH_ready (rs:=[17]) (by decide +kernel) (by simp) (Ai rfl (fun K hK=>?_) Am)
   go_simp
   refine hK.out _ _ hS (fun _=>?_)
   clear hK K;refine wpAnyH_done (by kernel_rfl) ?_ _
   go_upto_region 3 with fail
   have hbp:=H.out.ses.blk.ext hS;have d0:W5.cell? ⟨p,0,none⟩=some (.pointer v.tr):=hbp.cell 0;have d1:W5.cell? ⟨p,1,none⟩=some (.int .i64 s.at_):=hbp.cell 1;have d43:W5.cell? ⟨p,43,none⟩=some v.past:=hbp.cell 43;have d44:W5.cell? ⟨p,44,none⟩=some nl:=hbp.cell 44;have fz:=hbp.frozen;have e20:=hb2.cell 0;have e30:=hb3.cell 0;have e31:=hb3.cell 1;simp only[Ah,Af,Ag]at e20 e30 e31;have m2:=xM hlt hz2;have m3:=xM hlt hz3;have m2':=fun e=>m2 (Eq.symm e)
   have m3':=fun e=>m3 (Eq.symm e)
   have HR:=A6 (sS H.out HN.out hS HO.out.len HP.out k3 hoB);clear hb2 hb3 hoB hbp hz2 hz3 hg2 hg3 hn3 hS;go_region
   all_goals
    go_wp2_with fail
    go_end0
    exact⟨rfl,HR.out.ext (An.drew _)⟩
theorem V7 {md:Int}{a:Nat}{k:Int}{m:List Int}{b:Nat}(h:Jn md l a k=some (m,b))(hl:l.length≤200)(ha:a≤l.length):m.length≤200∧b≤m.length:=by
 have hb:=Mj (l:=l) (k:=a) (big:=false) ha;unfold Jn at h;split at h
 ·split at h
  ·exact I36
  ·split at h
   ·cases h
   ·exact I36
 ·split at h
  ·cases h
  ·split at h
   ·cases h
   ·split at h
    ·exact I36
    ·split at h
     ·exact I36
     ·split at h
      ·injection h with h;injection h with h1 h2;subst h1;subst h2;omega
      ·exact I36
def Zv (o:Option (List Int×Nat))(B:Option Addr)(q d:Nat)(b er:Int)(w:World):Prop:=
 (er=0∧∃(m:List Int) (a:Nat),o=some (m,a)∧b=a∧Av w 0 B q d m)∨(er≠0∧o=none)
theorem Zv.ext {q d:Nat}{b er:Int}(h:Zv o B q d b er w)(he:An w w'):Zv o B q d b er w':=
 h.imp (fun⟨h1,m,a,h2,h3,h4⟩=>⟨h1,m,a,h2,h3,h4.ext he⟩) id
theorem Zv.set2 {q d g t:Nat}{b er:Int}(h:Zv o B q d b er w)(hb:Aq w g t cs)(ht:t≠3)(x y:Value):Zv o B q d b er ((w.setCell ⟨g,0,none⟩ x).setCell ⟨g,1,none⟩ y):=
 h.imp (fun⟨h1,m,a,h2,h3,h4⟩=>⟨h1,m,a,h2,h3,Jd h4 hb ht x y⟩) id
theorem J1x {n c a:Nat}{k md:Int}(hl:Av w 0 A n c l)(hn:n≤200)(ha:a≤n)(hmd:md=1∨md=2):
 Calls Tryz.prog 85 #[.agg #[.slice A n c,.int .i64 (a:Int)],.int .i64 md,.int .i64 k] w fun e w'=>∃u,e=.returned u∧(∃B q d b er,u=.tuple #[.agg #[.slice B q d,.int .i64 b],.int .i64 er]∧Zv (Jn md l a k) B q d b er w')∧An w w':=by
 refine(vL hl.ints (Bd.nocap' hl) hn ha hmd).mono ?_
 intro e w' h;cases hk:Jn md l a k with
 |none=>
  rw[hk]at h;obtain⟨h1,x,h2,rfl⟩:=h;exact⟨_,rfl,⟨_,_,_,_,_,rfl,.inr ⟨h2,rfl⟩⟩,h1⟩
 |some p=>
  obtain⟨m,b⟩:=p;rw[hk]at h;obtain⟨h1,B,q,d,rfl,h2⟩:=h;exact⟨_,rfl,⟨_,_,_,_,_,rfl,.inl ⟨rfl,m,b,rfl,rfl,Bd.lower h2 (Nat.zero_le _)⟩⟩,h1⟩
theorem qE {p q n k k2:Nat}{c:Cm}{A A2:Option Addr}{key:Int}(h:Di w col p v s)(hv:v.now=some ⟨q,0,none⟩)(hs:s.now=some (c,l))
 (hq:col q=2) (hb:Aq w q 166 (Ni c++#[.slice A n k])) (ho:Av w 0 A n k l) (hc:∀g,(Ak A n k).ownBlock=some g→col g=3)
 (hg:w.grownBy w' (Ak A n k).ownBlock) (ho2:Bd w' 0 3 1 A2 (n+1) k2 (l.map (At .i64)++[.int .i64 key])) (hor:(Ak A2 (n+1) k2).ownBlock=(Ak A n k).ownBlock∨∃g,w.heap.size≤g∧(Ak A2 (n+1) k2).ownBlock=some g) (h8:(n+1)*8≤140737488355328):
 Bx p w col { s with now:=some (c,l++[key]) } (w'.setCell ⟨q,5,none⟩ (.slice A2 (n+1) k2)):=by
 have h7:=h.ses.own;have hnq:(Ak A n k).ownBlock≠some q:=fun e=>by have:=hc q e;omega
 have hnp:(Ak A n k).ownBlock≠some p:=fun e=>by have:=hc p e;omega
 have hqp:q≠p:=fun e=>by rw[e]at hq;omega
 have hnq2:(Ak A2 (n+1) k2).ownBlock≠some q:=fun e=>by
  rcases hor with e'|⟨g,h1,h2⟩
  ·exact hnq (e'.symm.trans e)
  ·rw[h2]at e;injection e with e;have:=hb.lt;omega
 have hb3:=hb.grown hg fun e=>hnq e.symm
 have hb4:Aq (w'.setCell ⟨q,5,none⟩ (.slice A2 (n+1) k2)) q 166 (Ni c++#[.slice A2 (n+1) k2]):=hb3.set_ 5 _;have hp4:=Bn (g':=q) (h.ses.blk.grown hg fun e=>hnp e.symm) hqp 5 (.slice A2 (n+1) k2)
 have ha4:=((Gz.of_own ho hg (by decide)).mono (M':=fun x=>(Ak A n k).ownBlock=some x∨x=q) fun x _ e=>.inl e).trans (Gz.set hb3 (by decide) 5 (.slice A2 (n+1) k2)) fun g _ e=>.inr e
 have hO4:Bd (w'.setCell ⟨q,5,none⟩ (.slice A2 (n+1) k2)) 0 3 1 A2 (n+1) k2 (l.map (At .i64)++[.int .i64 key]):=Bd.same ho2 fun g hg=>Cn fun e=>hnq2 (by rw[hg];exact congrArg some e)
 have hold:∀g,g<w.heap.size→(if(Ak A2 (n+1) k2).ownBlock=some g then 3 else col g)=col g:=fun g hg'=>by
  split
  ·rename_i e
   rcases hor with e'|⟨g',h1,h2⟩
   ·exact(hc g (e'.symm.trans e)).symm
   ·rw[h2]at e;injection e with e;omega
  ·rfl
 have hm:∀d,d≠3→d≠2→∀g,g<w.heap.size→((Ak A n k).ownBlock=some g∨g=q)→col g≠d:=fun d h1 h2 g _ e=>by
  rcases e with e|rfl
  ·rw[hc g e];exact fun e=>h1 e.symm
  ·rw[hq];exact fun e=>h2 e.symm
 refine⟨fun g=>if(Ak A2 (n+1) k2).ownBlock=some g then 3 else col g,v,⟨⟨hp4,(hold p h.ses.blk.lt).trans h7,(h.ses.dat.turn ha4 (hm 1 (by decide) (by decide)) hold).imp fun _ h=>⟨h.1,h.2,h.3,h.4,h.5,h.6,h.7,h.8⟩,?_,fun g hg'=>?_⟩,h.told.turn ha4 (fun g h1 h2=>⟨hm 4 (by decide) (by decide) g h1 h2,hm 5 (by decide) (by decide) g h1 h2⟩) hold,h.vis.turn ha4 (hm 6 (by decide) (by decide)) hold⟩,ha4.mono fun g h1 h2=>?_,fun g h1 h2=>by rw[←hold g h1];exact h2,fun g h1 e=>(hold g h1).trans e⟩
 ·rw[hv]
  exact⟨q,_,rfl,(hold q hb.lt).trans hq,hb4,⟨A2,n+1,k2,rfl,by unfold Av;rw[List.map_append];exact hO4,Bd.nocap' hO4,h8⟩,fun g e=>if_pos e⟩
 ·by_cases e:(Ak A2 (n+1) k2).ownBlock=some g
  ·exact(Bd.blk hO4 g e).2
  ·have hg':(if(Ak A2 (n+1) k2).ownBlock=some g then 3 else col g)≠0:=hg'
   exact I77
 ·rcases h2 with e|rfl
  ·rw[hc g e];decide
  ·rw[hq];decide
def Ys (s:PS):PS:={ s with at_:=max 0 (s.at_-1),mode:=0,last:=s.now.or s.last,now:=none }
def Eo (s:PS)(key:Int):PS:=
 if key=27 then Ys s
 else match Jn s.mode s.tx s.at_.toNat key with
  |none=>G8 s
  |some (m,b)=>{ s with tx:=m,at_:=b,now:=s.now.map fun x=>(x.1,x.2++[key]) }
structure tE (s:PS):Prop where
 len:s.tx.length≤200
 lo:0≤s.at_
 hi:s.at_≤s.tx.length
def xZ (K:Nat)(s:PS):Prop:=∀x,s.now=some x→x.2.length≤K
theorem Uq {p K:Nat}{key:Int}(h:Di w col p v s)(hl:tE s)(hm:s.mode=1∨s.mode=2)(hk:xZ K s)(hK:K≤1000000000)(hq:s.told.length≤1000000000000):
 Calls Tryz.prog 64 #[.pointer (some ⟨p,0,none⟩),.int .i64 key] w fun e w'=>e=.returned (.tuple #[])∧Bx p w col (Eo s key) w':=by
 obtain⟨a,ha⟩:∃a:Nat,s.at_=a:=⟨s.at_.toNat,by have:=hl.lo;omega⟩
 have hal:a≤s.tx.length:=by have:=hl.hi;omega
 by_cases h27:key=27
 ·subst h27
  have HL:=A6 (qN h ha (by have:=hl.len;omega))
  have HF:Hid (Eo s 27={ s with at_:=max 0 ((a:Int)-1),mode:=0,last:=s.now.or s.last,now:=none }):=A6 (by unfold Eo Ys;rw[if_pos rfl,ha])
  clear h hl hm hk ha;go_enter Tryz.func64,Tryz.ntmps64
  go_wp2_with fail
  refine HL.out.mono ?_
  rintro e w1 ⟨rfl,h1⟩;have H1:=A6 h1;clear h1 HL;exact I91
 ·have hkb:(key==27)=false:=by simpa using h27
  have HF:Hid (Eo s key=match Jn s.mode s.tx a key with|none=>G8 s|some (m,b)=>{ s with tx:=m,at_:=b,now:=s.now.map fun x=>(x.1,x.2++[key]) }):=A6 (by unfold Eo;rw[if_neg h27,ha];rfl)
  have HLn:=A6 (U8 h (show s.tx.length≤4096 by have:=hl.len;omega))
  have HLl:=A6 hl;have HKl:=A6 hk;have HB:Hid (∀wq,An w wq→Aq wq p 100 (Mn v s)):=A6 fun wq he=>h.ses.blk.ext he
  have H:=A6 h;have HA:=A6 ha;have HAL:=A6 hal;have HM:=A6 hm;clear h hl hk ha hm h27 hal;go_enter Tryz.func64,Tryz.ntmps64
  go_upto_region 2 with fail
  refine wp_region_held_drew (S:=fun w'=>An w w') (by kernel_rfl) (An.drew w) (fun hS=>?_)
  refine Bf (i:=0) (v:=(.pointer (some ⟨p,0,none⟩))) rfl hS ?_
  refine Bf (i:=2) (v:=(.pointer (some ⟨p,0,none⟩))) rfl hS ?_
  refine Bf (i:=3) (v:=(.pointer (some ⟨p,0,none⟩))) rfl hS ?_
  refine Bf (i:=4) (v:=(.pointer (some ⟨p,2,none⟩))) rfl hS ?_
  refine Fs (i:=5) (v:=(.int .i64 s.mode)) rfl (fun w' hSw=>by have e0:w'.cell? ⟨p,2,none⟩=some (.int .i64 s.mode):=(HB.out _ hSw).cell 2;go_simp) hS ?_
  refine Bf (i:=6) (v:=(.int .i64 key)) rfl hS ?_
  have HLn':Hid (∀wq,An w wq→Calls Tryz.prog 34 #[.pointer (some ⟨p,0,none⟩)] wq fun e w'=>∃u,e=.returned u∧(∃A n c,u=.agg #[.slice A n c,.int .i64 a]∧Av w' wq.heap.size A n c s.tx)∧An wq w'):=
   A6 fun wq he=>by have hh:=U8 (H.out.ext he) (show s.tx.length≤4096 by have:=HLl.out.len;omega);rw[HA.out]at hh;exact hh
  clear HLn;generalize w.drew=cur at*
  iterate 3
   all_goals (first|refine wpAnyH_ready (rs:=[1,11]) (by decide +kernel) (by simp) (Ai rfl (fun K hK=>?_) (Ai rfl (fun K hK=>?_) Am))|refine wpAnyH_ready (rs:=[7,11]) (by decide +kernel) (by simp) (Ai rfl (fun K hK=>?_) (Ai rfl (fun K hK=>?_) Am))|refine wpAnyH_ready (rs:=[1]) (by decide +kernel) (by simp) (Ai rfl (fun K hK=>?_) Am)|refine wpAnyH_ready (rs:=[7]) (by decide +kernel) (by simp) (Ai rfl (fun K hK=>?_) Am)|refine wpAnyH_ready (rs:=[11]) (by decide +kernel) (by simp) (Ai rfl (fun K hK=>?_) Am))
   all_goals (first
    |(
     refine Cg rfl 85 #[.agg #[.slice A n c,.int .i64 a],.int .i64 s.mode,.int .i64 key] rfl (by kernel_rfl) (fun u w'=>∃B q d b er,u=.tuple #[.agg #[.slice B q d,.int .i64 b],.int .i64 er]∧Zv (Jn s.mode s.tx a key) B q d b er w') (J1x hoL (by rw[←hoL.ints.len];exact HLl.out.len) (by rw[←hoL.ints.len];exact HAL.out) HM.out) ?_
     rintro u w3 ⟨B,q,d,b,er,rfl,hR⟩ hE;refine hK.out _ _ (hS.trans hE) (fun hS'=>?_)
     clear hK K hoL
     try replace hb4:=Aq.ext hb4 hE
     replace hS:=hS';clear hS' hE
     try simp only[Ac,Aa,Ab,Ap,A7,Ad,Ae]
     refine Bf (i:=8) (v:=.tuple #[.agg #[.slice B q d,.int .i64 b],.int .i64 er]) rfl hS ?_
     refine Bf (i:=9) (v:=.agg #[.slice B q d,.int .i64 b]) rfl hS ?_
     refine wpAnyH_take (i:=10) (v:=.int .i64 er) rfl (by kernel_rfl) (by kernel_rfl) (by kernel_rfl) (fun _ _ _ h=>h) (Or.inl ⟨by rfl,by(intro w' hSw;go_simp)⟩) hS ?_
     try simp only[Ac,Aa,Ab,Ap,A7,Ad,Ae])
    |(
     refine Cg rfl 34 #[.pointer (some ⟨p,0,none⟩)] rfl (by kernel_rfl) (fun u w'=>∃A n c,u=.agg #[.slice A n c,.int .i64 a]∧Av w' (World.heap _).size A n c s.tx) (HLn'.out _ hS) ?_
     rintro u w2 ⟨A,n,c,rfl,hoL⟩ hE;refine hK.out _ _ (hS.trans hE) (fun hS'=>?_)
     clear hK K;replace hoL:Av _ 0 A n c s.tx:=Bd.lower hoL (Nat.zero_le _)
     try replace hb4:=Aq.ext hb4 hE
     replace hS:=hS';clear hS' hE
     try simp only[Ac,Aa,Ab,Ap,A7,Ad,Ae])
    |(
     go_simp
     refine hK.out _ _ (hS.to_alloc (.cells #[.slice none 0 0,.int .i64 0] 32)) (fun hS'=>?_)
     clear hK K;have hE:=Lz hS'
     try replace hoL:=Av.ext hoL hE
     try replace hR:=hR.ext hE
     have hb4:=iY hS';have hz4:=hS.hsize;replace hS:=hS';clear hS' hE;generalize World.alloc _ _=nx at*
     try simp only[Ac,Aa,Ab,Ap,A7,Ad,Ae]))
  all_goals
   have e40:=hb4.cell 0;have e41:=hb4.cell 1;have f40:=hb4.frozen 0;have f41:=hb4.frozen 1;simp only[Ah,Af,Ag]at e40 e41;refine wpAnyH_ready (rs:=[12]) (by decide +kernel) (by simp) (Ai rfl (fun K hK=>?_) Am)
   go_simp
   have hR':=hR.set2 hb4 (by decide) (.slice B q d) (.int .i64 b)
   have hb4':=Dr hb4 (.slice B q d) (.int .i64 b);have hS':=Dq hS hz4 (.slice B q d) (.int .i64 b);clear e40 e41 f40 f41 hb4 hR hS;generalize Bh (Bh _ _ _) _ _=W4 at*;refine hK.out _ _ hS' (fun hS=>?_)
   clear hK K hS'
   try simp only[Ac,Aa,Ab,Ap,A7,Ad,Ae]
   refine wpAnyH_ready (rs:=[13]) (by decide +kernel) (by simp) (Ai rfl (fun K hK=>?_) Am)
   go_simp
   refine hK.out _ _ hS (fun _=>?_)
   clear hK K;refine wpAnyH_done (by kernel_rfl) ?_ _
   have hTr:Hid (Li w col W4 col):=A6 ⟨hS.alt _,fun _ _ h=>h,fun _ _ h=>h⟩
   rcases hR' with⟨rfl,m,a',hkm,rfl,hI⟩|⟨her,hkn⟩
   ·have hml:=V7 hkm HLl.out.len HAL.out
    have e40:=hb4'.cell 0;have e41:=hb4'.cell 1;simp only[Ah,Af,Ag]at e40 e41;have HSt:=A6 (cY (a:=a') (H.out.ext hS) hI.ints (by rw[←hI.ints.len];omega))
    have HKM:=A6 hkm;clear hI hb4' hkm;go_wp2_with fail
    refine HSt.out.mono ?_
    rintro e w6 ⟨rfl,tq,hmid,htr⟩;have HTR:=A6 (hTr.out.trans htr);have d47:w6.cell? ⟨p,47,none⟩=some (.pointer v.now):=hmid.ses.blk.cell 47;have HMid:=A6 hmid;clear hmid htr;have hN:=HMid.out.ses.now;cases hv:v.now with
    |none=>
     rw[hv]at d47;have hsn:s.now=none:=by
      have hN:R8 w6 col v.now s.now:=hN;rw[hv]at hN;rcases hs:s.now with _|⟨c',l'⟩
      ·rfl
      ·rw[hs]at hN;exact absurd hN (fun h=>h)
     clear hN;go_wp2_with fail
     go_end0
     have e:(s.now.map fun x=>(x.1,x.2++[key]))=s.now:=by rw[hsn];rfl
     have hfin:Bx p w col { s with tx:=m,at_:=(a':Int),now:=s.now.map fun x=>(x.1,x.2++[key]) } w6:=by rw[e];exact⟨_,_,HMid.out,HTR.out⟩
     refine⟨rfl,?_⟩
     rw[HF.out,HKM.out];exact hfin
    |some qa=>
     rw[hv]at d47;have hN:R8 w6 col v.now s.now:=hN;rw[hv]at hN;rcases hs:s.now with _|⟨c',l'⟩
     ·rw[hs]at hN;exact absurd hN (fun h=>h)
     ·rw[hs]at hN
      obtain⟨qq,y,rfl,g1,g2,⟨A5,n5,k5,rfl,g3,g4,g6⟩,g5⟩:=hN;have hlen5:l'.length=n5:=g3.ints.len;have hn5:n5≤1000000000:=by have:=HKl.out _ hs;simp at this;omega
      obtain⟨i0,hi,hz0,hz1,hz2⟩:=info_parts Cb;have HG:=A6 (And.intro g2 g3);have e5:w6.cell? ⟨qq,5,none⟩=some (.slice A5 n5 k5):=g2.cell 5;have HHS:=A6 hs;have HHV:=A6 hv;have G5:=A6 g5;have G1:=A6 g1;clear g1 g2 g3 g4 g6 g5 hv hs;go_upto_region 7 with fail
      refine wp_region_held_drew (S:=fun w'=>w'.cell? ⟨p,47,none⟩=some (.pointer (some ⟨qq,0,none⟩))) (by kernel_rfl) d47 (fun hS=>?_)
      refine Bf (i:=0) (v:=(.pointer (some ⟨p,0,none⟩))) rfl hS ?_
      refine Bf (i:=1) (v:=(.pointer (some ⟨p,0,none⟩))) rfl hS ?_
      refine Bf (i:=2) (v:=(.pointer (some ⟨p,47,none⟩))) rfl hS ?_
      refine Fs (i:=3) (v:=(.pointer (some ⟨qq,0,none⟩))) rfl (fun w' hSw=>by have e0:=hSw;go_simp) hS ?_
      refine Bf (i:=4) (v:=(.pointer (some ⟨p,0,none⟩))) rfl hS ?_
      refine Bf (i:=5) (v:=(.pointer (some ⟨p,0,none⟩))) rfl hS ?_
      refine Bf (i:=6) (v:=(.pointer (some ⟨p,47,none⟩))) rfl hS ?_
      refine Fs (i:=7) (v:=(.pointer (some ⟨qq,0,none⟩))) rfl (fun w' hSw=>by have e0:=hSw;go_simp) hS ?_
      refine Bf (i:=8) (v:=(.pointer (some ⟨qq,0,none⟩))) rfl hS ?_
      refine Bf (i:=9) (v:=(.pointer (some ⟨qq,5,none⟩))) rfl hS ?_
      refine Bf (i:=11) (v:=(.int .i64 key)) rfl hS ?_
      have hg2:Aq w6.drew qq 166 (Ni c'++#[.slice A5 n5 k5]):=HG.out.1;have hg3:Av w6.drew 0 A5 n5 k5 l':=HG.out.2;have hgM:Di w6.drew col p _ _:=HMid.out.ext (An.drew w6);have hpl:=hgM.ses.blk;clear d47 e5 HG HMid hS;have HTR':Hid (Li w col w6.drew col):=A6 (HTR.out.trans ⟨(An.drew w6).alt _,fun _ _ h=>h,fun _ _ h=>h⟩)
      clear HTR;generalize w6.drew=cur at*;have hne:(Ak A5 n5 k5).ownBlock≠some p:=Nx hg3 hpl (by decide)
      have hnq:(Ak A5 n5 k5).ownBlock≠some qq:=Nx hg3 hg2 (by decide)
      have hSp:cur.cell? ⟨p,47,none⟩=some (.pointer (some ⟨qq,0,none⟩)):=(hpl.cell 47).trans (congrArg (fun x=>some (Value.pointer x)) HHV.out)
      have hSa:(cur.alloc (.cells #[.int .i64 key] 3)).cell? ⟨p,47,none⟩=some (.pointer (some ⟨qq,0,none⟩)):=An.cell (An.alloc _ _) hSp;have hq5:cur.cell? ⟨qq,5,none⟩=some (.slice A5 n5 k5):=hg2.cell 5;have hqa:(cur.alloc (.cells #[.int .i64 key] 3)).cell? ⟨qq,5,none⟩=some (.slice A5 n5 k5):=An.cell (An.alloc _ _) hq5;refine wpAnyH_ready (rs:=[10,12]) (by decide +kernel) (by simp) (Ai rfl (fun K hK=>?_) (Ai rfl (fun K hK=>?_) Am))
      ·have N0:=trivial;exact K20
      ·have N1:=trivial;exact K20
   ·have hek:(er !=0)=true:=by simpa using her
    have HBl:=A6 (Kp (H.out.ext hS) hq);have HKN:=A6 hkn;clear hb4' hkn her;go_wp2_with fail
    refine HBl.out.mono ?_
    rintro e w6 ⟨rfl,hm⟩;have HMm:=A6 (Bx.trans hTr.out hm);clear hm;go_wp2_with fail
    refine bodyPost_ret (results_none rfl _ _ _) rfl ⟨rfl,?_⟩
    rw[HF.out,HKN.out];exact HMm.out
theorem Di.drop (h:Di w col p v s):Di (w.setCell ⟨p,47,none⟩ (.pointer none)) col p { v with now:=none } { s with now:=none }∧Li w col (w.setCell ⟨p,47,none⟩ (.pointer none)) col:=by
 have h7:=h.ses.own;have c:=(Dl.start (An.refl w) h.ses.blk).set 47 (.pointer none);have hm:∀c,c≠7→∀k,k<w.heap.size→k=p→col k≠c:=fun c hc k _ e=>by rw[e,h7];exact fun e=>hc e.symm
 exact⟨⟨⟨c.to (by kernel_rfl),h7,(h.old c.alt).imp fun _ h=>⟨h.1,h.2,h.3,h.4,h.5,h.6,h.7,h.8⟩,trivial,fun k hk=>Nat.lt_of_lt_of_le (h.ses.dom k hk) c.alt.size⟩,h.told.turn c.alt (fun k h1 h2=>⟨hm 4 (by decide) k h1 h2,hm 5 (by decide) k h1 h2⟩) fun _ _=>rfl,h.vis.turn c.alt (hm 6 (by decide)) fun _ _=>rfl⟩,c.alt.mono fun k _ e=>by rw[e,h7];decide,fun _ _ h=>h,fun _ _ h=>h⟩
def cU (w:World)(p:Nat)(a b c d e f:Value):World:=(((((w.setCell ⟨p,37,none⟩ a).setCell ⟨p,38,none⟩ b).setCell ⟨p,39,none⟩ c).setCell ⟨p,40,none⟩ d).setCell ⟨p,41,none⟩ e).setCell ⟨p,42,none⟩ f
theorem Di.hist {p b:Nat}{hi:Hi}{a d e:Value}(h:Di w col p v s)(he:An w w')(hh:Dc w' b (.agg #[a,.int .i64 hi.most,.int .i64 hi.at_,d,e,.bool hi.older]) hi)(hb:w.heap.size≤b):
 ∃col',Di (cU w' p a (.int .i64 hi.most) (.int .i64 hi.at_) d e (.bool hi.older)) col' p { v with h0:=a,h3:=d,h4:=e } { s with hi:=hi }∧Li w col (cU w' p a (.int .i64 hi.most) (.int .i64 hi.at_) d e (.bool hi.older)) col'∧∀k,k<w.heap.size→col' k=col k:=by
 obtain⟨hm,ht⟩:=h.grow he 1;have hD:Hw (fun k=>Go.Proofs.YtkaefdmhlmlhbaaGreat.grow col w.heap.size w'.heap.size 1 k=1) w' fun x=>Dc x 0 (.agg #[a,.int .i64 hi.most,.int .i64 hi.at_,d,e,.bool hi.older]) hi:=
  Hw.his hh fun k h1 h2=>Jf (Nat.le_trans hb h1) h2
 have c:=((((((Dl.start (An.refl w') hm.ses.blk).set 37 a).set 38 (.int .i64 hi.most)).set 39 (.int .i64 hi.at_)).set 40 d).set 41 e).set 42 (.bool hi.older);have hr:=hm.chainD hD c { v with h0:=a,h3:=d,h4:=e } { s with hi:=hi } (by kernel_rfl) fun w'' htr ho' hd'=>⟨hd'.1,hd'.2,hd'.3,ho',hd'.5,hd'.6,hd'.7,hd'.8⟩
 exact⟨_,hr.1,ht.trans hr.2,fun k hk=>V8 hk⟩
theorem Dc.form {b:Nat}{u:Value}{h:Hi}(hh:Dc w b u h):∃A n c S sn sc P pn pc,u=.agg #[.slice A n c,.int .i64 h.most,.int .i64 h.at_,.slice S sn sc,.slice P pn pc,.bool h.older]:=by
 obtain⟨A,n,c,S,sn,sc,P,pn,pc,e,_⟩:=hh;exact⟨A,n,c,S,sn,sc,P,pn,pc,e⟩
noncomputable def Pn (s:PS):PS:=Zt { s with hi:=Nr s.hi s.tx,told:=s.told++[(2,s.tx)],now:=none } [] 1
theorem nC (h:Di w col p v s)(hl:s.tx.length≤200)(hq:s.told.length≤1000000000000):
 Calls Tryz.prog 61 #[.pointer (some ⟨p,0,none⟩)] w fun e w'=>e=.returned (.tuple #[])∧Bx p w col (Pn s) w':=by
 have hd:=h.ses.dat.here;have hb:=h.ses.blk;have d0:w.cell? ⟨p,0,none⟩=some (.pointer v.tr):=hb.cell 0;have HC:=A6 (Gj hd.tr (by omega))
 have H:=A6 h;have HL:=A6 hl;clear h hd hb hl;go_enter Tryz.func61,Tryz.ntmps61
 go_wp2_with fail
 refine HC.out.mono ?_
 rintro e w1 ⟨_,rfl,⟨A,c,rfl,hA⟩,he⟩;obtain⟨hm1,ht1⟩:=H.out.grow he 5;have hD5:Hw (fun k=>Go.Proofs.YtkaefdmhlmlhbaaGreat.grow col w.heap.size w1.heap.size 5 k=5) w1 fun x=>Bk x 0 (.slice A s.tx.length c) s.tx:=
  Hw.reg (b:=w.heap.size) ⟨A,_,c,rfl,hA,Bd.nocap' hA,by have:=HL.out;omega⟩ fun k h1 h2=>Jf h1 h2
 generalize Go.Proofs.YtkaefdmhlmlhbaaGreat.grow col w.heap.size w1.heap.size 5=col1 at*;have hd1:=hm1.ses.dat.here;obtain⟨A0,n0,c0,S0,sn0,sc0,P0,pn0,pc0,hform⟩:=hd1.his.form;have HAd:=A6 (J2f hd1.his.v (Av.ints hA) (Bd.nocap' hA));have hb1:=hm1.ses.blk;have d37:w1.cell? ⟨p,37,none⟩=some v.h0:=hb1.cell 37;have d38:w1.cell? ⟨p,38,none⟩=some (.int .i64 s.hi.most):=hb1.cell 38;have d39:w1.cell? ⟨p,39,none⟩=some (.int .i64 s.hi.at_):=hb1.cell 39;have d40:w1.cell? ⟨p,40,none⟩=some v.h3:=hb1.cell 40;have d41:w1.cell? ⟨p,41,none⟩=some v.h4:=hb1.cell 41;have d42:w1.cell? ⟨p,42,none⟩=some (.bool s.hi.older):=hb1.cell 42;have HM1:=A6 hm1;have HT1:=A6 ht1;have HD5:=A6 hD5;clear hd1 hform hm1 ht1 hD5 hb1 hA d0;go_wp2_with fail
 refine HAd.out.mono ?_
 rintro e w2 ⟨u,x,rfl,hu,he2⟩;obtain⟨A1,n1,c1,S1,sn1,sc1,P1,pn1,pc1,rfl⟩:=hu.form;obtain⟨col2,hm2,ht2,hc2⟩:=HM1.out.hist he2 hu (Nat.le_refl _);have hb2:=HM1.out.ses.blk.ext he2;have fz:=hb2.frozen;have e37:w2.cell? ⟨p,37,none⟩=some v.h0:=hb2.cell 37;have e38:w2.cell? ⟨p,38,none⟩=some (.int .i64 s.hi.most):=hb2.cell 38;have e39:w2.cell? ⟨p,39,none⟩=some (.int .i64 s.hi.at_):=hb2.cell 39;have e40:w2.cell? ⟨p,40,none⟩=some v.h3:=hb2.cell 40;have e41:w2.cell? ⟨p,41,none⟩=some v.h4:=hb2.cell 41;have e42:w2.cell? ⟨p,42,none⟩=some (.bool s.hi.older):=hb2.cell 42;have hT:Hid (∀wx cx,Li (cU w2 p (.slice A1 n1 c1) (.int .i64 (Nr s.hi s.tx).most) (.int .i64 (Nr s.hi s.tx).at_) (.slice S1 sn1 sc1) (.slice P1 pn1 pc1) (.bool (Nr s.hi s.tx).older)) col2 wx cx→Li w col wx cx):=A6 fun wx cx hx=>HT1.out.trans (ht2.trans hx)
 have HTl:=A6 (U1 (k:=2) (y:=.slice A s.tx.length c) (l:=s.tx) hm2 (by
  have ha:Gz (fun k=>k=p) w1 (cU w2 p (.slice A1 n1 c1) (.int .i64 (Nr s.hi s.tx).most) (.int .i64 (Nr s.hi s.tx).at_) (.slice S1 sn1 sc1) (.slice P1 pn1 pc1) (.bool (Nr s.hi s.tx).older)):=
   ((((((Dl.start he2 (HM1.out.ses.blk.ext he2)).set 37 _).set 38 _).set 39 _).set 40 _).set 41 _ |>.set 42 _).alt
  exact HD5.out.turn ha (fun k _ e=>by rw[e,HM1.out.ses.own];decide) hc2) hq)
 unfold cU at HTl hT;clear hm2 ht2 hc2 hb2 hu HD5 HM1;go_wp2_with fail
 refine HTl.out.mono ?_
 rintro e w3 ⟨rfl,col3,v3,hm3,ht3⟩;have e47:w3.cell? ⟨p,47,none⟩=some (.pointer v3.now):=hm3.ses.blk.cell 47;have f47:=hm3.ses.blk.frozen 47;obtain⟨hm4,ht4⟩:=hm3.drop;have HB:=A6 (Pf (md:=1) hm4 (Bl.none_ _) (by omega))
 have HT4:=A6 (hT.out _ _ (ht3.trans ht4));clear hm3 ht3 hm4 ht4 hT HTl;go_wp2_with fail
 refine HB.out.mono ?_
 rintro e w5 ⟨rfl,h5⟩;have H5:=A6 (Bx.trans HT4.out h5);clear h5;go_wp2_with fail
 go_end0
 exact⟨rfl,H5.out⟩
def Ny (s:PS)(hi:Hi)(line:List Int):PS:=Zt { s with hi:=hi } line 0
theorem qG {a d e:Value}{mo wh er:Int}{ol:Bool}{L:Value}(h:Di w col p v s)(her:er≠0)(hq:s.told.length≤1000000000000):
 Calls Tryz.prog 80 #[.pointer (some ⟨p,0,none⟩),.agg #[a,.int .i64 mo,.int .i64 wh,d,e,.bool ol],L,.int .i64 er] w fun e w'=>e=.returned (.tuple #[])∧Bx p w col (G8 s) w':=by
 have hx:=An.alloc w (.cells #[a,.int .i64 mo,.int .i64 wh,d,e,.bool ol] 94);have HB:=A6 (Kp (h.ext hx) hq);have hT:Hid (Li w col _ col):=A6 ⟨hx.alt _,fun _ _ h=>h,fun _ _ h=>h⟩
 have heb:(er !=0)=true:=by simpa using her
 clear h hx her;go_enter Tryz.func80,Tryz.ntmps80
 go_wp2_with fail
 refine HB.out.mono ?_
 rintro e w1 ⟨rfl,h1⟩;have H1:=A6 (Bx.trans hT.out h1);clear h1;go_wp2_with fail
 refine bodyPost_ret (results_none rfl _ _ _) rfl ⟨rfl,H1.out⟩
theorem qF {w0 w:World}{p m z:Nat}{A0 S0 P0 L:Option Addr}{n0 c0 sn sc pn pc:Nat}{hi:Hi}{line:List Int}(h:Di w0 col p v s)(he:An w0 w)
 (hh:Dc w w0.heap.size (.agg #[.slice A0 n0 c0,.int .i64 hi.most,.int .i64 hi.at_,.slice S0 sn sc,.slice P0 pn pc,.bool hi.older]) hi) (hI:Av w w0.heap.size L m z line) (hm:m≤4096):
 Calls Tryz.prog 80 #[.pointer (some ⟨p,0,none⟩),.agg #[.slice A0 n0 c0,.int .i64 hi.most,.int .i64 hi.at_,.slice S0 sn sc,.slice P0 pn pc,.bool hi.older],.slice L m z,.int .i64 0] w fun e w'=>e=.returned (.tuple #[])∧Bx p w0 col (Ny s hi line) w':=by
 have hx:=An.alloc w (.cells #[.slice A0 n0 c0,.int .i64 hi.most,.int .i64 hi.at_,.slice S0 sn sc,.slice P0 pn pc,.bool hi.older] 94);have hbx:=Aq.new w 94 #[.slice A0 n0 c0,.int .i64 hi.most,.int .i64 hi.at_,.slice S0 sn sc,.slice P0 pn pc,.bool hi.older];obtain⟨col1,hm1,ht1,hc1⟩:=h.hist (he.trans hx) (hh.ext hx) (Nat.le_refl _);have hp:=h.ses.blk.ext (he.trans hx);have hlt:=Nat.lt_of_lt_of_le h.ses.blk.lt he.hsize;have n1:¬p=w.heap.size:=by omega
 have n2:¬w.heap.size=p:=by omega
 have hpl:p<w0.heap.size:=h.ses.blk.lt;have hIs:Bl (cU (w.alloc (.cells #[.slice A0 n0 c0,.int .i64 hi.most,.int .i64 hi.at_,.slice S0 sn sc,.slice P0 pn pc,.bool hi.older] 94)) p (.slice A0 n0 c0) (.int .i64 hi.most) (.int .i64 hi.at_) (.slice S0 sn sc) (.slice P0 pn pc) (.bool hi.older)) L m z line:=Av.ints ((((((Bd.setCell (Av.ext hI hx) (p:=⟨p,37,none⟩) hpl _).setCell (p:=⟨p,38,none⟩) hpl _).setCell (p:=⟨p,39,none⟩) hpl _).setCell (p:=⟨p,40,none⟩) hpl _).setCell (p:=⟨p,41,none⟩) hpl _).setCell (p:=⟨p,42,none⟩) hpl _);have HB:=A6 (Pf (md:=0) hm1 hIs hm);have HT:=A6 ht1;unfold cU at HB HT;clear h he hh hx hm1 ht1 hc1 hIs hI;go_enter Tryz.func80,Tryz.ntmps80
 go_upto_region 1 with fail
 generalize w.alloc (.cells #[.slice A0 n0 c0,.int .i64 hi.most,.int .i64 hi.at_,.slice S0 sn sc,.slice P0 pn pc,.bool hi.older] 94)=W at*;obtain⟨x0,x1,x2,x3,x4,x5⟩:=Cp hbx;have fz:=hp.frozen;have e37:W.cell? ⟨p,37,none⟩=some v.h0:=hp.cell 37;have e38:W.cell? ⟨p,38,none⟩=some (.int .i64 s.hi.most):=hp.cell 38;have e39:W.cell? ⟨p,39,none⟩=some (.int .i64 s.hi.at_):=hp.cell 39;have e40:W.cell? ⟨p,40,none⟩=some v.h3:=hp.cell 40;have e41:W.cell? ⟨p,41,none⟩=some v.h4:=hp.cell 41;have e42:W.cell? ⟨p,42,none⟩=some (.bool s.hi.older):=hp.cell 42;clear hbx hp;go_wp2_with fail
 refine HB.out.mono ?_
 rintro e w1 ⟨rfl,h1⟩;have H1:=A6 (Bx.trans HT.out h1);clear h1;go_wp2_with fail
 go_end0
 exact⟨rfl,H1.out⟩
end
