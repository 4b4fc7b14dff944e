/-
  Part ZViG.
-/
import Derived.Test.YtiahhfglhlgfiaaGreatZViE
import Derived.Test.YtiahhfglhlgfiaaGreatZViA
set_option maxRecDepth 100000
set_option maxHeartbeats 16000000
set_option linter.unusedVariables false
set_option linter.unusedSimpArgs false
namespace Go.Proofs.YtiahhfglhlgfiaaGreat
open Go.RowKit
open _root_.List renaming getElem?_append_left→Bu,getElem?_append_right→Ca,getElem?_cons_succ→Af,getElem?_cons_zero→Ae,getElem?_take→Mg,getElem?_toArray→Ag,getElem_cons_succ→Aa,getElem_cons_zero→A7,getElem_toArray→Ab,setIfInBounds_toArray→A6,set_cons_succ→Ad,set_cons_zero→Ac
open Value renaming int→Aq,slice→Aj
open _root_.And renaming intro→Be
open _root_.Nat renaming le_refl→Ai
open Act renaming put→Am
open AllReadyH renaming cons→Ah,nil→Ak
open World renaming setCell→Bb
section
variable {col:Nat→Nat}{w w':World}{v:SV}{s:PS}{p base e z n c g:Nat}{xs:List Value}{l:List Int}{A B:Option Addr}{o:Option (List Int×Nat)}{cs:Array Value}
def grow (col:Nat→Nat)(a b c:Nat):Nat→Nat:=fun k=>if k<a then col k else if k<b then c else 0
theorem Hn {a b c k:Nat}(h1:a≤k)(h2:k<b):grow col a b c k=c:=by unfold grow;rw[if_neg (by omega),if_pos h2]
theorem Ty {a b c k:Nat}(h1:k<a):grow col a b c k=col k:=by unfold grow;rw[if_pos h1]
theorem Db.grow (h:Db w col p v s)(he:Al w w')(c:Nat):Db w' (grow col w.heap.size w'.heap.size c) p v s∧Kp w col w' (grow col w.heap.size w'.heap.size c):=by
 have ha:=he.alt fun _=>False
 have ho:∀k,k<w.heap.size→Go.Proofs.YtiahhfglhlgfiaaGreat.grow col w.heap.size w'.heap.size c k=col k:=fun k hk=>Ty hk
 have hf:∀x,∀k,k<w.heap.size→False→col k≠x:=fun _ _ _ h=>h.elim
 refine⟨⟨⟨h.ses.blk.ext he,(ho p h.ses.blk.lt).trans h.ses.own,h.ses.dat.turn ha (hf 1) ho,h.ses.now.turn ha (fun k h1 h2=>h2.elim) ho,fun k hk=>?_⟩,h.told.turn ha (fun k h1 h2=>h2.elim) ho,h.vis.turn ha (hf 6) ho⟩,ha.mono fun _ _ h=>h.elim,fun k hk h2=>by rw[←ho k hk];exact h2,fun k hk e=>(ho k hk).trans e⟩
 unfold Go.Proofs.YtiahhfglhlgfiaaGreat.grow at hk;split at hk
 ·exact Nat.lt_of_lt_of_le (by assumption) he.hsize
 ·split at hk
  ·assumption
  ·exact absurd rfl hk
theorem Db.chainD {D:World→Prop}(h:Db w col p v s)(hD:Ht (fun k=>col k=1) w D)(c:Dh w w' p 65 cs)(v':SV)(s':PS)(hc:cs=Ll v' s')
 (hd:∀w'',(∀x t,Bp w x t→Bp w'' x t)→D w''→VD w'' v s→VD w'' v' s')
 (e1:v'.now=v.now:=by rfl) (e2:s'.now=s.now:=by rfl) (e3:v'.told=v.told:=by rfl) (e4:s'.told=s.told:=by rfl) (e5:v'.vis=v.vis:=by rfl) (e6:s'.vis=s.vis:=by rfl):Db w' col p v' s'∧Kp w col w' col:=by
 have hD':=hD.turn (col':=col) c.alt (fun k _ e=>by rw[e,h.ses.own];decide) fun _ _=>rfl
 exact h.put c.alt (hc▸c.blk) (fun M w'' h2 h3=>hd w'' (fun x t ht=>(ht.alt c.alt).alt h2) (hD' M w'' h2 h3) (h.old c.alt M w'' h2 h3)) e1 e2 e3 e4 e5 e6
def Pm (s:PS):PS:={ s with past:=(s.past++[(s.tx,s.at_)]).drop (s.past.length+1-30) }
theorem Te.save {w':World}{A':Option Addr}{n c':Nat}(hxl:xs.length=n*2)(hn:s.past.length=n)
 (hp:∀i,i<n→∃a,xs[i*2]? = some (.pointer a)∧xs[i*2+1]? = some (.int .i64 (gP s.past i).2)∧Bp w' a (M6 (gP s.past i).1)) (hb:n≤30) (ht:Bp w' v.tr (M6 s.tx))
 (ho:Ay w' 0 59 2 A' (min 30 (n+1)) c' (Md n xs v.tr s.at_)):Te w' (.slice A' (min 30 (n+1)) c') (Pm s).past:=by
 refine⟨A',_,c',_,rfl,ho,?_,fun i hi=>?_⟩
 ·unfold Pm
  simp only[List.length_drop,List.length_append,List.length_singleton,hn];omega
 ·unfold Pm Md
  have e:n+1-min 30 (n+1)=n+1-30:=by omega
  have hi2:n+1-30+i<n+1:=by omega
  have hg:gP ((s.past++[(s.tx,s.at_)]).drop (s.past.length+1-30)) i=gP (s.past++[(s.tx,s.at_)]) (n+1-30+i):=by
   unfold gP;rw[List.getElem?_drop,hn]
  have g1:∀k,(List.drop (2*(n+1-30)) (xs++[Value.pointer v.tr,Aq .i64 s.at_]))[k]? = (xs++[Value.pointer v.tr,Aq .i64 s.at_])[2*(n+1-30)+k]? := fun k=>List.getElem?_drop ..
  simp only[hg,g1];rcases Nat.lt_or_ge (n+1-30+i) n with hlt|hge
  ·obtain⟨a,k1,k2,k3⟩:=hp _ hlt
   have hg2:gP (s.past++[(s.tx,s.at_)]) (n+1-30+i)=gP s.past (n+1-30+i):=by unfold gP;rw[Bu (by omega)]
   rw[hg2];refine⟨a,?_,?_,k3⟩
   ·rw[Bu (by omega),←k1];congr 1;omega
   ·rw[Bu (by omega),←k2];congr 1;omega
  ·have hin:n+1-30+i=n:=by omega
   have hg2:gP (s.past++[(s.tx,s.at_)]) (n+1-30+i)=(s.tx,s.at_):=by unfold gP;rw[hin,←hn];simp
   rw[hg2];refine⟨v.tr,?_,?_,ht⟩
   ·rw[Ca (by omega),show 2*(n+1-30)+i*2-xs.length=0 by omega];rfl
   ·rw[Ca (by omega),show 2*(n+1-30)+(i*2+1)-xs.length=1 by omega];rfl
theorem eJ (h:Db w col p v s)(hb:s.past.length≤30):
 Calls Tryz.prog 93 #[.pointer (some ⟨p,0,none⟩)] w fun e w'=>e=.returned (.tuple #[])∧Br p w col (Pm s) w':=by
 have hd:=h.ses.dat.here;obtain⟨A,n,c,xs,hv,ho,hn,hp⟩:=hd.past;have hone:∀u∈xs,u.oneCell'=true:=fun u hu=>by
  exact I21
 have hbl:=h.ses.blk;have fz:=hbl.frozen;have d0:w.cell? ⟨p,0,none⟩=some (.pointer v.tr):=hbl.cell 0;have d1:w.cell? ⟨p,1,none⟩=some (.int .i64 s.at_):=hbl.cell 1;have d43:w.cell? ⟨p,43,none⟩=some (.slice A n c):=(hbl.cell 43).trans (congrArg some hv);have d44:w.cell? ⟨p,44,none⟩=some nl:=hbl.cell 44;have HC:=A4 (wD (q:=v.tr) (a:=s.at_) ((Ay.rd ho).ext (Al.drew w)) hone (Ay.nocap' ho) (by omega))
 have H:=A4 h;go_enter Tryz.func93,Tryz.ntmps93
 go_region_law (first
  |(
   refine C9 rfl 112 #[.agg #[.slice A n c,.slice none 0 0],.int .i64 30,.agg #[.pointer v.tr,.int .i64 s.at_]] rfl (by kernel_rfl) (fun u w'=>∃A' c',u=.agg #[.slice A' (min 30 (n+1)) c',.slice none 0 0]∧Ay w' w.drew.heap.size 59 2 A' (min 30 (n+1)) c' (Md n xs v.tr s.at_)) (HC.out.mono fun e w' ⟨A',c',h1,h2,h3⟩=>⟨_,h1,⟨A',c',rfl,h2⟩,h3⟩) ?_
   rintro u w2 ⟨A',c',rfl,ho2⟩ hE;have hb2:=(H.out.ses.blk.ext (Al.drew w)).ext hE;have e43:w2.cell? ⟨p,43,none⟩=some v.past:=hb2.cell 43;have e44:w2.cell? ⟨p,44,none⟩=some nl:=hb2.cell 44;have f2:=hb2.frozen))
 all_goals
  have HR:Hid (Br p w col (Pm s) ((w2.setCell ⟨p,43,none⟩ (.slice A' (min 30 (n+1)) c')).setCell ⟨p,44,none⟩ nl)):=A4 (by
   have hEw:Al w w2:=(Al.drew w).trans hE;obtain⟨hm,ht⟩:=H.out.grow hEw 1;have hD:Ht (fun k=>grow col w.heap.size w2.heap.size 1 k=1) w2 fun w=>Ay w 0 59 2 A' (min 30 (n+1)) c' (Md n xs v.tr s.at_):=
    Ht.own (Ay.lower ho2 (Nat.zero_le _)) fun g hg=>Hn (Ay.blk ho2 g hg).1 (Ay.blk ho2 g hg).2
   have c:=((Dh.start (Al.refl w2) hm.ses.blk).set 43 (.slice A' (min 30 (n+1)) c')).set 44 nl;have hr:=hm.chainD hD c { v with past:=.slice A' (min 30 (n+1)) c' } (Pm s) (by kernel_rfl) fun w'' htr ho' hd'=>⟨hd'.1,hd'.2,hd'.3,hd'.4,Te.save ho.len hn (fun i hi=>let ⟨a,k1,k2,k3⟩:=hp i hi;⟨a,k1,k2,htr _ _ (Bp.ext hEw k3)⟩) (by omega) hd'.tr ho',hd'.6,hd'.7,hd'.8⟩
   exact⟨_,_,hr.1,ht.trans hr.2⟩)
  clear h hd hb hp hone hbl H HC hE ho2 hb2 hv ho hn;go_wp2_with fail
  go_end0
  exact⟨rfl,HR.out⟩
theorem Tp (h:l.length≤4096):(M6 l).toL=l∧(M6 l).sz=l.length:=by
 unfold M6;rw[if_pos h];obtain⟨_,h2⟩:=Ki l.length l (Ai _);have h3:(Tr.build l).toL.length=(Tr.build l).sz:=Tr.len _;have h2:(Tr.build l).toL=l:=h2;rw[h2]at h3;exact⟨h2,h3.symm⟩
theorem Fs {a:Option Addr}(h:Bp w a (M6 l))(hl:l.length≤4096):
 Calls Tryz.prog 37 #[.agg #[.pointer a]] w fun e w'=>∃v,e=.returned v∧(∃A c,v=.slice A l.length c∧Av w' w.heap.size A l.length c l)∧Al w w':=by
 obtain⟨h1,h2⟩:=Tp hl;refine(rI h (by omega)).mono ?_
 rintro e w' ⟨A,c,rfl,ho,he⟩;rw[h1,h2]at*;exact⟨_,rfl,⟨A,c,rfl,ho⟩,he⟩
theorem Su (h:Db w col p v s)(hl:s.tx.length≤4096):
 Calls Tryz.prog 15 #[.pointer (some ⟨p,0,none⟩)] w fun e w'=>∃u,e=.returned u∧(∃A n c,u=.agg #[.slice A n c,.int .i64 s.at_]∧Av w' w.heap.size A n c s.tx)∧Al w w':=by
 have hx:=Al.alloc w (.cells #[.slice none 0 0,.int .i64 0] 34);have hb:=An.new w 34 #[.slice none 0 0,.int .i64 0];have hp:=h.ses.blk.ext hx;have ht:=Bp.ext hx h.ses.dat.here.tr;have HC:=A4 (Fs (Bp.ext (Al.drew _) ht) hl);have hlt:=h.ses.blk.lt;have HX:=A4 hx;have HB:=A4 hb;have HP:=A4 hp;clear h hx ht hb;go_enter Tryz.func15,Tryz.ntmps15
 go_upto_region 1 with fail
 generalize w.alloc (.cells #[.slice none 0 0,.int .i64 0] 34)=W at*;have d0:W.cell? ⟨p,0,none⟩=some (.pointer v.tr):=hp.cell 0;have d1:W.cell? ⟨p,1,none⟩=some (.int .i64 s.at_):=hp.cell 1;clear hp;go_region_law (first
  |(
   refine C9 rfl 37 #[.agg #[.pointer v.tr]] rfl (by kernel_rfl) (fun u w'=>∃A c,u=.slice A s.tx.length c∧Av w' W.drew.heap.size A s.tx.length c s.tx) HC.out ?_
   rintro u w2 ⟨A,c,rfl,ho2⟩ hE;have hb2:=(HB.out.ext (Al.drew W)).ext hE;have hp2:=(HP.out.ext (Al.drew W)).ext hE;have e0:=hb2.cell 0;have e1:=hb2.cell 1;have f0:=hb2.frozen 0;have f1:=hb2.frozen 1;have g1:w2.cell? ⟨p,1,none⟩=some (.int .i64 s.at_):=hp2.cell 1;simp only[List.getElem?_toArray,List.getElem?_cons_zero,List.getElem?_cons_succ]at e0 e1))
 all_goals
  have hz:w.heap.size<W.heap.size:=HB.out.lt;have HR:=A4 (Be (Mz hb2 (.slice A s.tx.length c) (.int .i64 s.at_)) (Be (So ho2 hz (.slice A s.tx.length c) (.int .i64 s.at_)) (My (HX.out.trans ((Al.drew W).trans hE)) (Ai _) (.slice A s.tx.length c) (.int .i64 s.at_))));unfold pO at HR;clear HC HX HB HP hE ho2 hb2 hp2;go_wp2_with fail
  refine bodyPost_ret (Jt rfl _ _ _ _ _ _ _ rfl HR.out.1 Tryz.underlying34 rfl (by kernel_rfl)) rfl ⟨_,rfl,⟨A,_,c,rfl,Ay.lower HR.out.2.1 (Nat.le_of_lt hz)⟩,HR.out.2.2⟩
def Fe (s:PS):PS:={ s with told:=s.told++[(1,[])] }
def Kt (s:PS):PS:=bif V6 s.tx s.first then Fe s else { Pm s with tx:=s.first,at_:=0 }
theorem iW (h:Db w col p v s):
 Db ((w.setCell ⟨p,0,none⟩ (.pointer v.first)).setCell ⟨p,1,none⟩ (.int .i64 0)) col p { v with tr:=v.first } { s with tx:=s.first,at_:=0 }∧Kp w col ((w.setCell ⟨p,0,none⟩ (.pointer v.first)).setCell ⟨p,1,none⟩ (.int .i64 0)) col:=
 h.chain (((Dh.start (Al.refl w) h.ses.blk).set 0 (.pointer v.first)).set 1 (.int .i64 0)) _ _ (by kernel_rfl) fun w'' _ ht hd=>⟨hd.2,hd.2,hd.3,hd.4,hd.5,hd.6,hd.7,hd.8⟩
theorem gG (h:Db w col p v s)(h1:s.tx.length≤4096)(h2:s.first.length≤4096)(h3:s.past.length≤30)(hq:s.told.length≤1000000000000):
 Calls Tryz.prog 56 #[.pointer (some ⟨p,0,none⟩)] w fun e w'=>e=.returned (.tuple #[])∧Br p w col (Kt s) w':=by
 have hb:=h.ses.blk;have hd:=h.ses.dat.here;have d0:w.cell? ⟨p,0,none⟩=some (.pointer v.tr):=hb.cell 0;have d45:w.cell? ⟨p,45,none⟩=some (.pointer v.first):=hb.cell 45;have HC1:=A4 (Fs (Bp.ext (Al.drew w) hd.tr) h1);have HC2:Hid (∀wq,Al w wq→_):=A4 fun wq he=>Fs (Bp.ext he hd.first) h2
 have HBL:Hid (∀wq,Al w wq→_):=A4 fun wq he=>Js (h.ext he) hq
 have HSV:Hid (∀wq,Al w wq→_):=A4 fun wq he=>eJ (h.ext he) h3
 have HB:=A4 hb;have HT:Hid (∀wq,Al w wq→Kp w col wq col):=A4 fun wq he=>⟨he.alt _,fun _ _ h=>h,fun _ _ h=>h⟩
 clear h hd hb;go_enter Tryz.func56,Tryz.ntmps56
 go_upto_region 0 with fail
 go_region_law (first
  |(
   refine C9 rfl 9 #[.slice A _ c,.slice A2 _ c2] rfl (by kernel_rfl) (fun u w'=>u=.bool (V6 s.tx s.first)) ((J4 (Av.ints (Av.ext o1 hE2)) (Av.ints o2)).mono fun e w' ⟨h1,h2⟩=>⟨_,h1,rfl,h2⟩) ?_
   rintro u w4 rfl hE3)
  |(
   refine C9 rfl 37 #[.agg #[.pointer v.first]] rfl (by kernel_rfl) (fun u w'=>∃A c,u=.slice A s.first.length c∧Av w' w2.heap.size A s.first.length c s.first) (HC2.out _ hEw) ?_
   rintro u w3 ⟨A2,c2,rfl,o2⟩ hE2)
  |(
   refine C9 rfl 37 #[.agg #[.pointer v.tr]] rfl (by kernel_rfl) (fun u w'=>∃A c,u=.slice A s.tx.length c∧Av w' w.drew.heap.size A s.tx.length c s.tx) HC1.out ?_
   rintro u w2 ⟨A,c,rfl,o1⟩ hE;have hEw:Al w w2:=(Al.drew w).trans hE;have g45:w2.cell? ⟨p,45,none⟩=some (.pointer v.first):=(HB.out.ext hEw).cell 45))
 all_goals
  have hX:=A4 (hEw.trans (hE2.trans hE3));clear o1 o2 hE hE2 hE3 hEw HC1 HC2;cases heq:V6 s.tx s.first
  ·go_wp2_with fail
   refine(HSV.out _ hX.out).mono ?_
   rintro e w5 ⟨rfl,col5,v5,hm,ht⟩;have hb5:=hm.ses.blk;have e0:w5.cell? ⟨p,0,none⟩=some (.pointer v5.tr):=hb5.cell 0;have e1:w5.cell? ⟨p,1,none⟩=some (.int .i64 s.at_):=hb5.cell 1;have e45:w5.cell? ⟨p,45,none⟩=some (.pointer v5.first):=hb5.cell 45;have fz:=hb5.frozen;have HM:=A4 (iW hm);have HT5:=A4 ((HT.out _ hX.out).trans ht);clear hm ht hb5;go_wp2_with fail
   go_end0
   refine⟨rfl,?_⟩
   unfold Kt;rw[heq];exact⟨_,_,HM.out.1,HT5.out.trans HM.out.2⟩
  ·go_wp2_with fail
   refine(HBL.out _ hX.out).mono ?_
   rintro e w5 ⟨rfl,hm⟩;have HM:=A4 (Br.trans (HT.out _ hX.out) hm);clear hm;go_wp2_with fail
   refine bodyPost_ret (results_none rfl _ _ _) rfl ?_
   refine⟨rfl,?_⟩
   unfold Kt;rw[heq];exact HM.out
theorem Ey {g g' t t':Nat}{cs cs':Array Value}(h:An w g t cs)(h':An w g' t' cs')(hne:t≠t'):g≠g':=fun e=>by
 subst e;exact hne (h.inj h').1
theorem vH (h:Ay w base e z A n c xs)(hg:g<base):∀k,(Aj A n c).ownBlock=some k→k≠g:=fun k hk=>by have:=(Ay.blk h k hk).1;omega
theorem rA (h:Ay w base e z A n c xs)(hg:w.heap.size≤g):∀k,(Aj A n c).ownBlock=some k→k≠g:=fun k hk=>by have:=(Ay.blk h k hk).2;omega
theorem mS (h:Ay w base e z A n c xs)(hn:∀k,(Aj A n c).ownBlock=some k→k≠g)(a b:Value):Ay ((w.setCell ⟨g,0,none⟩ a).setCell ⟨g,1,none⟩ b) base e z A n c xs:=
 Ay.same h fun k hk=>by rw[Cd (hn k hk),Cd (hn k hk)]
def J7 (s:PS):PS:=if s.past.length=0 then Fe s else { s with past:=s.past.take (s.past.length-1),tx:=(gP s.past (s.past.length-1)).1,at_:=(gP s.past (s.past.length-1)).2 }
theorem Br.ext {w w1 w2:World}{s':PS}(h:Br p w col s' w1)(he:Al w1 w2):Br p w col s' w2:=
 let ⟨c,v,h1,h2⟩:=h;⟨c,v,h1.ext he,h2.1.ext he,h2.2,h2.3⟩
theorem tI {p a b:Nat}(h:p<a)(h2:a≤b):¬p=b:=by omega
theorem pB {w W:World}{p n d:Nat}{B r:Option Addr}(h:Db w col p v s)(hn:s.past.length=n+1)(he:Al w W)(hxl:xs.length=(n+1)*2)
 (hp:∀i,i<n+1→∃a,xs[i*2]? = some (.pointer a)∧xs[i*2+1]? = some (.int .i64 (gP s.past i).2)∧Bp w a (M6 (gP s.past i).1)) (k3:Bp w r (M6 (gP s.past n).1)) (ho:Ay W w.heap.size 59 2 B n d (xs.take (n*2))):
 Br p w col (J7 s) ((((W.setCell ⟨p,43,none⟩ (.slice B n d)).setCell ⟨p,44,none⟩ nl).setCell ⟨p,0,none⟩ (.pointer r)).setCell ⟨p,1,none⟩ (.int .i64 (gP s.past n).2)):=by
 obtain⟨hm,ht⟩:=h.grow he 1;have hD:Ht (fun k=>grow col w.heap.size W.heap.size 1 k=1) W fun w=>Ay w 0 59 2 B n d (xs.take (n*2)):=
  Ht.own (Ay.lower ho (Nat.zero_le _)) fun g hg=>Hn (Ay.blk ho g hg).1 (Ay.blk ho g hg).2
 have c:=((((Dh.start (Al.refl W) hm.ses.blk).set 43 (.slice B n d)).set 44 nl).set 0 (.pointer r)).set 1 (.int .i64 (gP s.past n).2);have e:J7 s={ s with past:=s.past.take n,tx:=(gP s.past n).1,at_:=(gP s.past n).2 }:=by
  unfold J7;rw[if_neg (by omega),hn]
  rfl
 rw[e];have hr:=hm.chainD hD c { v with past:=.slice B n d,tr:=r } { s with past:=s.past.take n,tx:=(gP s.past n).1,at_:=(gP s.past n).2 } (by kernel_rfl) fun w'' htr ho' hd'=>⟨htr _ _ (Bp.ext he k3),hd'.2,hd'.3,hd'.4,⟨B,n,d,_,rfl,ho',by rw[List.length_take];omega,fun i hi=>?_⟩,hd'.6,hd'.7,hd'.8⟩
 ·exact⟨_,_,hr.1,ht.trans hr.2⟩
 ·obtain⟨a,k1,k2,k3⟩:=hp i (by omega)
  have hg:gP (s.past.take n) i=gP s.past i:=by unfold gP;rw[Mg,if_pos hi]
  rw[hg];exact⟨a,by rw[Mg,if_pos (by omega)];exact k1,by rw[Mg,if_pos (by omega)];exact k2,htr _ _ (Bp.ext he k3)⟩
theorem sZ (h:Db w col p v s)(h3:s.past.length≤30)(hq:s.told.length≤1000000000000):
 Calls Tryz.prog 55 #[.pointer (some ⟨p,0,none⟩)] w fun e w'=>e=.returned (.tuple #[])∧Br p w col (J7 s) w':=by
 have hd:=h.ses.dat.here;obtain⟨A,n,c,xs,hv,ho,hn,hp⟩:=hd.past;have hbl:=h.ses.blk;have HB:Hid (∀wq,Al w wq→wq.cell? ⟨p,0,none⟩=some (.pointer v.tr)∧wq.cell? ⟨p,1,none⟩=some (.int .i64 s.at_)∧wq.cell? ⟨p,43,none⟩=some (.slice A n c)∧wq.cell? ⟨p,44,none⟩=some nl):=
  A4 fun wq he=>⟨(hbl.ext he).cell 0,(hbl.ext he).cell 1,((hbl.ext he).cell 43).trans (congrArg some hv),(hbl.ext he).cell 44⟩
 have HBL:Hid (∀wq,Al w wq→_):=A4 fun wq he=>Js (h.ext he) hq
 have HT:Hid (∀wq,Al w wq→Kp w col wq col):=A4 fun wq he=>⟨he.alt _,fun _ _ h=>h,fun _ _ h=>h⟩
 have H:=A4 h;have HP:=A4 hp;have HN:=A4 hn;have HO:=A4 ho;have HV:=A4 hv;rcases n with _|n
 ·have HC:Hid (∀wq,Al w wq→Calls Tryz.prog 94 #[.agg #[.slice A 0 c,.slice none 0 0],.agg #[.pointer v.tr,.int .i64 s.at_]] wq fun e w'=>
   ∃u,e=.returned u∧(∃B d,u=.tuple #[.agg #[.slice B 0 d,.slice none 0 0],.agg #[.pointer v.tr,.int .i64 s.at_],.bool false])∧Al wq w'):=
   A4 fun wq he=>(pD (Rd.nmax (Ay.rd ho)) (Ay.nocap' ho)).mono fun e w' ⟨⟨B,d,h1⟩,h3⟩=>⟨_,h1,⟨B,d,rfl⟩,h3⟩
  have hlt:=hbl.lt;clear h hd hv ho hn hp hbl;go_enter Tryz.func55,Tryz.ntmps55
  go_upto_region 0 with fail
  refine wp_region_held_drew (S:=fun w'=>Al w w') (by kernel_rfl) (Al.drew w) (fun hS=>?_)
  refine B8 (i:=0) (v:=(.pointer (some ⟨p,0,none⟩))) rfl hS ?_
  refine B8 (i:=1) (v:=(.pointer (some ⟨p,0,none⟩))) rfl hS ?_
  refine B8 (i:=2) (v:=(.pointer (some ⟨p,43,none⟩))) rfl hS ?_
  refine F4 (i:=3) (v:=(.agg #[.slice A 0 c,nl])) rfl (fun w' hSw=>by obtain⟨_,_,e0,e1⟩:=HB.out _ hSw;go_simp) hS ?_
  refine B8 (i:=4) (v:=(.pointer (some ⟨p,0,none⟩))) rfl hS ?_
  refine B8 (i:=5) (v:=(.pointer (some ⟨p,0,none⟩))) rfl hS ?_
  refine B8 (i:=6) (v:=(.pointer (some ⟨p,0,none⟩))) rfl hS ?_
  refine F4 (i:=7) (v:=(.agg #[.pointer v.tr,.int .i64 s.at_])) rfl (fun w' hSw=>by obtain⟨e0,e1,_,_⟩:=HB.out _ hSw;go_simp) hS ?_
  generalize w.drew=cur at*
  iterate 3
   all_goals (first|refine wpAnyH_ready (rs:=[8,13,14]) (by decide +kernel) (by simp) (Ah rfl (fun K hK=>?_) (Ah rfl (fun K hK=>?_) (Ah rfl (fun K hK=>?_) Ak)))|refine wpAnyH_ready (rs:=[8,13]) (by decide +kernel) (by simp) (Ah rfl (fun K hK=>?_) (Ah rfl (fun K hK=>?_) Ak))|refine wpAnyH_ready (rs:=[8,14]) (by decide +kernel) (by simp) (Ah rfl (fun K hK=>?_) (Ah rfl (fun K hK=>?_) Ak))|refine wpAnyH_ready (rs:=[13,14]) (by decide +kernel) (by simp) (Ah rfl (fun K hK=>?_) (Ah rfl (fun K hK=>?_) Ak))|refine wpAnyH_ready (rs:=[8]) (by decide +kernel) (by simp) (Ah rfl (fun K hK=>?_) Ak)|refine wpAnyH_ready (rs:=[13]) (by decide +kernel) (by simp) (Ah rfl (fun K hK=>?_) Ak)|refine wpAnyH_ready (rs:=[14]) (by decide +kernel) (by simp) (Ah rfl (fun K hK=>?_) Ak))
   all_goals (first
    |(
     refine C9 rfl 94 _ rfl (by kernel_rfl) (fun u w'=>∃B d,u=.tuple #[.agg #[.slice B 0 d,.slice none 0 0],.agg #[.pointer v.tr,.int .i64 s.at_],.bool false]) (HC.out _ hS) ?_
     rintro u w2 ⟨B,d,rfl⟩ hE;refine hK.out _ _ (hS.trans hE) (fun hS'=>?_)
     clear hK K
     try replace hb2:=An.ext hb2 hE
     try replace hb3:=An.ext hb3 hE
     replace hS:=hS';clear hS' hE
     try simp only[Ab,A7,Aa,Am,A6,Ac,Ad]
     refine B8 (i:=9) (v:=.tuple #[.agg #[.slice B 0 d,.slice none 0 0],.agg #[.pointer v.tr,.int .i64 s.at_],.bool false]) rfl hS ?_
     refine B8 (i:=10) (v:=.agg #[.slice B 0 d,.slice none 0 0]) rfl hS ?_
     refine B8 (i:=11) (v:=.agg #[.pointer v.tr,.int .i64 s.at_]) rfl hS ?_
     refine wpAnyH_take (i:=12) (v:=.bool false) rfl (by kernel_rfl) (by kernel_rfl) (by kernel_rfl) (fun _ _ _ h=>h) (Or.inl ⟨by rfl,by(intro w' hSw;go_simp)⟩) hS ?_
     try simp only[Ab,A7,Aa,Am,A6,Ac,Ad])
    |(
     go_simp
     refine hK.out _ _ (hS.to_alloc (.cells #[.slice none 0 0,.slice none 0 0] 62)) (fun hS'=>?_)
     clear hK K;have hE:=L2 hS'
     try replace hb3:=An.ext hb3 hE
     have hb2:=fI hS';have hz2:=hS.hsize;replace hS:=hS';clear hS' hE;generalize World.alloc _ _=nx at*
     try simp only[Ab,A7,Aa,Am,A6,Ac,Ad])
    |(
     go_simp
     refine hK.out _ _ (hS.to_alloc (.cells #[.pointer none,.int .i64 0] 59)) (fun hS'=>?_)
     clear hK K;have hE:=L2 hS'
     try replace hb2:=An.ext hb2 hE
     have hb3:=fI hS';have hz3:=hS.hsize;replace hS:=hS';clear hS' hE;generalize World.alloc _ _=nx at*
     try simp only[Ab,A7,Aa,Am,A6,Ac,Ad]))
  all_goals
   have e20:=hb2.cell 0;have e21:=hb2.cell 1;have f20:=hb2.frozen 0;have f21:=hb2.frozen 1;simp only[Ag,Ae,Af]at e20 e21;refine wpAnyH_ready (rs:=[15]) (by decide +kernel) (by simp) (Ah rfl (fun K hK=>?_) Ak)
   go_simp
   have hg2:=hb2.lt;have hg3:=hb3.lt;have hb3':=E0 hb3 (Ey hb2 hb3 (by decide)) (.slice B 0 d) (.slice none 0 0)
   have hb2':=Ds hb2 (.slice B 0 d) (.slice none 0 0);have hS':=Dr hS hz2 (.slice B 0 d) (.slice none 0 0);clear e20 e21 f20 f21 hb2 hb3 hS;generalize Bb (Bb _ _ _) _ _=W4 at*;refine hK.out _ _ hS' (fun hS=>?_)
   clear hK K hS'
   try simp only[Ab,A7,Aa,Am,A6,Ac,Ad]
   have e20:=hb3'.cell 0;have e21:=hb3'.cell 1;have f20:=hb3'.frozen 0;have f21:=hb3'.frozen 1;simp only[Ag,Ae,Af]at e20 e21;refine wpAnyH_ready (rs:=[16]) (by decide +kernel) (by simp) (Ah rfl (fun K hK=>?_) Ak)
   go_simp
   have hb2:=E0 hb2' (Ey hb3' hb2' (by decide)) (.pointer v.tr) (.int .i64 s.at_)
   have hb3:=Ds hb3' (.pointer v.tr) (.int .i64 s.at_);have hS':=Dr hS hz3 (.pointer v.tr) (.int .i64 s.at_);clear e20 e21 f20 f21 hb2' hb3' hS;generalize Bb (Bb _ _ _) _ _=W5 at*;refine hK.out _ _ hS' (fun hS=>?_)
   clear hK K hS'
   try simp only[Ab,A7,Aa,Am,A6,Ac,Ad]
   refine wpAnyH_ready (rs:=[17]) (by decide +kernel) (by simp) (Ah rfl (fun K hK=>?_) Ak)
   go_simp
   refine hK.out _ _ hS (fun _=>?_)
   clear hK K;refine wpAnyH_done (by kernel_rfl) ?_ _
   go_wp2_with fail
   refine(HBL.out _ hS).mono ?_
   rintro e w6 ⟨rfl,hm⟩;have HM:=A4 (Br.trans (HT.out _ hS) hm);clear hm hS hb2 hb3 hz2 hz3;go_wp2_with fail
   refine bodyPost_ret (results_none rfl _ _ _) rfl ⟨rfl,?_⟩
   unfold J7;rw[if_pos HN.out];exact HM.out
 ·obtain⟨r,k1,k2,k3⟩:=hp n (by omega)
  have hone:∀u∈xs,u.oneCell'=true:=fun u hu=>by
   exact I21
  have HC:Hid (∀wq,Al w wq→Calls Tryz.prog 94 #[.agg #[.slice A (n+1) c,.slice none 0 0],.agg #[.pointer v.tr,.int .i64 s.at_]] wq fun e w'=>
   ∃u,e=.returned u∧(∃B d F f,u=.tuple #[.agg #[.slice B n d,.slice F 1 f],.agg #[.pointer r,.int .i64 (gP s.past n).2],.bool true]∧Ay w' wq.heap.size 59 2 B n d (xs.take (n*2)))∧Al wq w'):=
   A4 fun wq he=>(pC ((Ay.rd ho).ext he) hone (by omega) k1 k2).mono fun e w' ⟨B,d,F,f,h1,h2,h3⟩=>⟨_,h1,⟨B,d,F,f,rfl,h2⟩,h3⟩
  have hlt:=hbl.lt;clear h hd hv ho hn hp hbl hone k1 k2;go_enter Tryz.func55,Tryz.ntmps55
  go_upto_region 0 with fail
  refine wp_region_held_drew (S:=fun w'=>Al w w') (by kernel_rfl) (Al.drew w) (fun hS=>?_)
  refine B8 (i:=0) (v:=(.pointer (some ⟨p,0,none⟩))) rfl hS ?_
  refine B8 (i:=1) (v:=(.pointer (some ⟨p,0,none⟩))) rfl hS ?_
  refine B8 (i:=2) (v:=(.pointer (some ⟨p,43,none⟩))) rfl hS ?_
  refine F4 (i:=3) (v:=(.agg #[.slice A (n+1) c,nl])) rfl (fun w' hSw=>by obtain⟨_,_,e0,e1⟩:=HB.out _ hSw;go_simp) hS ?_
  refine B8 (i:=4) (v:=(.pointer (some ⟨p,0,none⟩))) rfl hS ?_
  refine B8 (i:=5) (v:=(.pointer (some ⟨p,0,none⟩))) rfl hS ?_
  refine B8 (i:=6) (v:=(.pointer (some ⟨p,0,none⟩))) rfl hS ?_
  refine F4 (i:=7) (v:=(.agg #[.pointer v.tr,.int .i64 s.at_])) rfl (fun w' hSw=>by obtain⟨e0,e1,_,_⟩:=HB.out _ hSw;go_simp) hS ?_
  generalize w.drew=cur at*
  iterate 3
   all_goals (first|refine wpAnyH_ready (rs:=[8,13,14]) (by decide +kernel) (by simp) (Ah rfl (fun K hK=>?_) (Ah rfl (fun K hK=>?_) (Ah rfl (fun K hK=>?_) Ak)))|refine wpAnyH_ready (rs:=[8,13]) (by decide +kernel) (by simp) (Ah rfl (fun K hK=>?_) (Ah rfl (fun K hK=>?_) Ak))|refine wpAnyH_ready (rs:=[8,14]) (by decide +kernel) (by simp) (Ah rfl (fun K hK=>?_) (Ah rfl (fun K hK=>?_) Ak))|refine wpAnyH_ready (rs:=[13,14]) (by decide +kernel) (by simp) (Ah rfl (fun K hK=>?_) (Ah rfl (fun K hK=>?_) Ak))|refine wpAnyH_ready (rs:=[8]) (by decide +kernel) (by simp) (Ah rfl (fun K hK=>?_) Ak)|refine wpAnyH_ready (rs:=[13]) (by decide +kernel) (by simp) (Ah rfl (fun K hK=>?_) Ak)|refine wpAnyH_ready (rs:=[14]) (by decide +kernel) (by simp) (Ah rfl (fun K hK=>?_) Ak))
   all_goals (first
    |(
     refine C9 rfl 94 _ rfl (by kernel_rfl) (fun u w'=>∃B d F f,u=.tuple #[.agg #[.slice B n d,.slice F 1 f],.agg #[.pointer r,.int .i64 (gP s.past n).2],.bool true]∧Ay w' (World.heap _).size 59 2 B n d (xs.take (n*2))) (HC.out _ hS) ?_
     rintro u w2 ⟨B,d,F,f,rfl,hoB⟩ hE;refine hK.out _ _ (hS.trans hE) (fun hS'=>?_)
     clear hK K
     try have hn3:=vH hoB hb3.lt
     replace hoB:=Ay.lower hoB hS.hsize
     try replace hb2:=An.ext hb2 hE
     try replace hb3:=An.ext hb3 hE
     replace hS:=hS';clear hS' hE
     try simp only[Ab,A7,Aa,Am,A6,Ac,Ad]
     refine B8 (i:=9) (v:=.tuple #[.agg #[.slice B n d,.slice F 1 f],.agg #[.pointer r,.int .i64 (gP s.past n).2],.bool true]) rfl hS ?_
     refine B8 (i:=10) (v:=.agg #[.slice B n d,.slice F 1 f]) rfl hS ?_
     refine B8 (i:=11) (v:=.agg #[.pointer r,.int .i64 (gP s.past n).2]) rfl hS ?_
     refine wpAnyH_take (i:=12) (v:=.bool true) rfl (by kernel_rfl) (by kernel_rfl) (by kernel_rfl) (fun _ _ _ h=>h) (Or.inl ⟨by rfl,by(intro w' hSw;go_simp)⟩) hS ?_
     try simp only[Ab,A7,Aa,Am,A6,Ac,Ad])
    |(
     go_simp
     refine hK.out _ _ (hS.to_alloc (.cells #[.slice none 0 0,.slice none 0 0] 62)) (fun hS'=>?_)
     clear hK K;have hE:=L2 hS'
     try replace hb3:=An.ext hb3 hE
     try replace hoB:=Ay.ext hoB hE
     have hb2:=fI hS';have hz2:=hS.hsize;replace hS:=hS';clear hS' hE;generalize World.alloc _ _=nx at*
     try simp only[Ab,A7,Aa,Am,A6,Ac,Ad])
    |(
     go_simp
     refine hK.out _ _ (hS.to_alloc (.cells #[.pointer none,.int .i64 0] 59)) (fun hS'=>?_)
     clear hK K;have hE:=L2 hS'
     try replace hb2:=An.ext hb2 hE
     try have hn3:=rA hoB (Nat.le_refl _)
     try replace hoB:=Ay.ext hoB hE
     have hb3:=fI hS';have hz3:=hS.hsize;replace hS:=hS';clear hS' hE;generalize World.alloc _ _=nx at*
     try simp only[Ab,A7,Aa,Am,A6,Ac,Ad]))
  all_goals
   have e20:=hb2.cell 0;have e21:=hb2.cell 1;have f20:=hb2.frozen 0;have f21:=hb2.frozen 1;simp only[Ag,Ae,Af]at e20 e21;refine wpAnyH_ready (rs:=[15]) (by decide +kernel) (by simp) (Ah rfl (fun K hK=>?_) Ak)
   go_simp
   have hg2:=hb2.lt;have hg3:=hb3.lt;have hb3':=E0 hb3 (Ey hb2 hb3 (by decide)) (.slice B n d) (.slice F 1 f)
   have hb2':=Ds hb2 (.slice B n d) (.slice F 1 f);have hoB':=Hm hoB hb2 (by decide) (.slice B n d) (.slice F 1 f)
   have hS':=Dr hS hz2 (.slice B n d) (.slice F 1 f);clear e20 e21 f20 f21 hb2 hb3 hoB hS;generalize Bb (Bb _ _ _) _ _=W4 at*;refine hK.out _ _ hS' (fun hS=>?_)
   clear hK K hS'
   try simp only[Ab,A7,Aa,Am,A6,Ac,Ad]
   have e20:=hb3'.cell 0;have e21:=hb3'.cell 1;have f20:=hb3'.frozen 0;have f21:=hb3'.frozen 1;simp only[Ag,Ae,Af]at e20 e21;refine wpAnyH_ready (rs:=[16]) (by decide +kernel) (by simp) (Ah rfl (fun K hK=>?_) Ak)
   go_simp
   have hb2:=E0 hb2' (Ey hb3' hb2' (by decide)) (.pointer r) (.int .i64 (gP s.past n).2)
   have hb3:=Ds hb3' (.pointer r) (.int .i64 (gP s.past n).2);have hoB:=mS hoB' hn3 (.pointer r) (.int .i64 (gP s.past n).2);have hS':=Dr hS hz3 (.pointer r) (.int .i64 (gP s.past n).2);clear e20 e21 f20 f21 hb2' hb3' hoB' hS;generalize Bb (Bb _ _ _) _ _=W5 at*;refine hK.out _ _ hS' (fun hS=>?_)
   clear hK K hS'
   try simp only[Ab,A7,Aa,Am,A6,Ac,Ad]
   refine wpAnyH_ready (rs:=[17]) (by decide +kernel) (by simp) (Ah rfl (fun K hK=>?_) Ak)
   go_simp
   refine hK.out _ _ hS (fun _=>?_)
   clear hK K;refine wpAnyH_done (by kernel_rfl) ?_ _
   go_upto_region 3 with fail
   have hbp:=H.out.ses.blk.ext hS;have d0:W5.cell? ⟨p,0,none⟩=some (.pointer v.tr):=hbp.cell 0;have d1:W5.cell? ⟨p,1,none⟩=some (.int .i64 s.at_):=hbp.cell 1;have d43:W5.cell? ⟨p,43,none⟩=some v.past:=hbp.cell 43;have d44:W5.cell? ⟨p,44,none⟩=some nl:=hbp.cell 44;have fz:=hbp.frozen;have e20:=hb2.cell 0;have e30:=hb3.cell 0;have e31:=hb3.cell 1;simp only[Ag,Ae,Af]at e20 e30 e31;have m2:=tI hlt hz2;have m3:=tI hlt hz3;have m2':=fun e=>m2 (Eq.symm e)
   have m3':=fun e=>m3 (Eq.symm e)
   have HR:=A4 (pB H.out HN.out hS HO.out.len HP.out k3 hoB);clear hb2 hb3 hoB hbp hz2 hz3 hg2 hg3 hn3 hS;go_region
   all_goals
    go_wp2_with fail
    go_end0
    exact⟨rfl,HR.out.ext (Al.drew _)⟩
theorem Tx {md:Int}{a:Nat}{k:Int}{m:List Int}{b:Nat}(h:Hy md l a k=some (m,b))(hl:l.length≤200)(ha:a≤l.length):m.length≤200∧b≤m.length:=by
 have hb:=Lg (l:=l) (k:=a) (big:=false) ha;unfold Hy at h;split at h
 ·split at h
  ·exact I37
  ·split at h
   ·cases h
   ·exact I37
 ·split at h
  ·cases h
  ·split at h
   ·cases h
   ·split at h
    ·exact I37
    ·split at h
     ·exact I37
     ·split at h
      ·injection h with h;injection h with h1 h2;subst h1;subst h2;omega
      ·exact I37
def Yi (o:Option (List Int×Nat))(B:Option Addr)(q d:Nat)(b er:Int)(w:World):Prop:=
 (er=0∧∃(m:List Int) (a:Nat),o=some (m,a)∧b=a∧Av w 0 B q d m)∨(er≠0∧o=none)
theorem Yi.ext {q d:Nat}{b er:Int}(h:Yi o B q d b er w)(he:Al w w'):Yi o B q d b er w':=
 h.imp (fun⟨h1,m,a,h2,h3,h4⟩=>⟨h1,m,a,h2,h3,h4.ext he⟩) id
theorem Yi.set2 {q d g t:Nat}{b er:Int}(h:Yi o B q d b er w)(hb:An w g t cs)(ht:t≠3)(x y:Value):Yi o B q d b er ((w.setCell ⟨g,0,none⟩ x).setCell ⟨g,1,none⟩ y):=
 h.imp (fun⟨h1,m,a,h2,h3,h4⟩=>⟨h1,m,a,h2,h3,Hm h4 hb ht x y⟩) id
theorem xQ {n c a:Nat}{k md:Int}(hl:Av w 0 A n c l)(hn:n≤200)(ha:a≤n)(hmd:md=1∨md=2):
 Calls Tryz.prog 48 #[.agg #[.slice A n c,.int .i64 (a:Int)],.int .i64 md,.int .i64 k] w fun e w'=>∃u,e=.returned u∧(∃B q d b er,u=.tuple #[.agg #[.slice B q d,.int .i64 b],.int .i64 er]∧Yi (Hy md l a k) B q d b er w')∧Al w w':=by
 refine(rO hl.ints (Ay.nocap' hl) hn ha hmd).mono ?_
 intro e w' h;cases hk:Hy md l a k with
 |none=>
  rw[hk]at h;obtain⟨h1,x,h2,rfl⟩:=h;exact⟨_,rfl,⟨_,_,_,_,_,rfl,.inr ⟨h2,rfl⟩⟩,h1⟩
 |some p=>
  obtain⟨m,b⟩:=p;rw[hk]at h;obtain⟨h1,B,q,d,rfl,h2⟩:=h;exact⟨_,rfl,⟨_,_,_,_,_,rfl,.inl ⟨rfl,m,b,rfl,rfl,Ay.lower h2 (Nat.zero_le _)⟩⟩,h1⟩
theorem mY {p q n k k2:Nat}{c:Cm}{A A2:Option Addr}{key:Int}(h:Db w col p v s)(hv:v.now=some ⟨q,0,none⟩)(hs:s.now=some (c,l))
 (hq:col q=2) (hb:An w q 112 (Ma c++#[.slice A n k])) (ho:Av w 0 A n k l) (hc:∀g,(Aj A n k).ownBlock=some g→col g=3)
 (hg:w.grownBy w' (Aj A n k).ownBlock) (ho2:Ay w' 0 3 1 A2 (n+1) k2 (l.map (Aq .i64)++[.int .i64 key])) (hor:(Aj A2 (n+1) k2).ownBlock=(Aj A n k).ownBlock∨∃g,w.heap.size≤g∧(Aj A2 (n+1) k2).ownBlock=some g) (h8:(n+1)*8≤140737488355328):
 Br p w col { s with now:=some (c,l++[key]) } (w'.setCell ⟨q,5,none⟩ (.slice A2 (n+1) k2)):=by
 have h7:=h.ses.own;have hnq:(Aj A n k).ownBlock≠some q:=fun e=>by have:=hc q e;omega
 have hnp:(Aj A n k).ownBlock≠some p:=fun e=>by have:=hc p e;omega
 have hqp:q≠p:=fun e=>by rw[e]at hq;omega
 have hnq2:(Aj A2 (n+1) k2).ownBlock≠some q:=fun e=>by
  rcases hor with e'|⟨g,h1,h2⟩
  ·exact hnq (e'.symm.trans e)
  ·rw[h2]at e;injection e with e;have:=hb.lt;omega
 have hb3:=hb.grown hg fun e=>hnq e.symm
 have hb4:An (w'.setCell ⟨q,5,none⟩ (.slice A2 (n+1) k2)) q 112 (Ma c++#[.slice A2 (n+1) k2]):=hb3.set_ 5 _;have hp4:=Bh (g':=q) (h.ses.blk.grown hg fun e=>hnp e.symm) hqp 5 (.slice A2 (n+1) k2)
 have ha4:=((Fp.of_own ho hg (by decide)).mono (M':=fun x=>(Aj A n k).ownBlock=some x∨x=q) fun x _ e=>.inl e).trans (Fp.set hb3 (by decide) 5 (.slice A2 (n+1) k2)) fun g _ e=>.inr e
 have hO4:Ay (w'.setCell ⟨q,5,none⟩ (.slice A2 (n+1) k2)) 0 3 1 A2 (n+1) k2 (l.map (Aq .i64)++[.int .i64 key]):=Ay.same ho2 fun g hg=>Cd fun e=>hnq2 (by rw[hg];exact congrArg some e)
 have hold:∀g,g<w.heap.size→(if(Aj A2 (n+1) k2).ownBlock=some g then 3 else col g)=col g:=fun g hg'=>by
  split
  ·rename_i e
   rcases hor with e'|⟨g',h1,h2⟩
   ·exact(hc g (e'.symm.trans e)).symm
   ·rw[h2]at e;injection e with e;omega
  ·rfl
 have hm:∀d,d≠3→d≠2→∀g,g<w.heap.size→((Aj A n k).ownBlock=some g∨g=q)→col g≠d:=fun d h1 h2 g _ e=>by
  rcases e with e|rfl
  ·rw[hc g e];exact fun e=>h1 e.symm
  ·rw[hq];exact fun e=>h2 e.symm
 refine⟨fun g=>if(Aj A2 (n+1) k2).ownBlock=some g then 3 else col g,v,⟨⟨hp4,(hold p h.ses.blk.lt).trans h7,(h.ses.dat.turn ha4 (hm 1 (by decide) (by decide)) hold).imp fun _ h=>⟨h.1,h.2,h.3,h.4,h.5,h.6,h.7,h.8⟩,?_,fun g hg'=>?_⟩,h.told.turn ha4 (fun g h1 h2=>⟨hm 4 (by decide) (by decide) g h1 h2,hm 5 (by decide) (by decide) g h1 h2⟩) hold,h.vis.turn ha4 (hm 6 (by decide) (by decide)) hold⟩,ha4.mono fun g h1 h2=>?_,fun g h1 h2=>by rw[←hold g h1];exact h2,fun g h1 e=>(hold g h1).trans e⟩
 ·rw[hv]
  exact⟨q,_,rfl,(hold q hb.lt).trans hq,hb4,⟨A2,n+1,k2,rfl,by unfold Av;rw[List.map_append];exact hO4,Ay.nocap' hO4,h8⟩,fun g e=>if_pos e⟩
 ·by_cases e:(Aj A2 (n+1) k2).ownBlock=some g
  ·exact(Ay.blk hO4 g e).2
  ·have hg':(if(Aj A2 (n+1) k2).ownBlock=some g then 3 else col g)≠0:=hg'
   exact I75
 ·rcases h2 with e|rfl
  ·rw[hc g e];decide
  ·rw[hq];decide
def Xe (s:PS):PS:={ s with at_:=max 0 (s.at_-1),mode:=0,last:=s.now.or s.last,now:=none }
def Eb (s:PS)(key:Int):PS:=
 if key=27 then Xe s
 else match Hy s.mode s.tx s.at_.toNat key with
  |none=>Fe s
  |some (m,b)=>{ s with tx:=m,at_:=b,now:=s.now.map fun x=>(x.1,x.2++[key]) }
structure pL (s:PS):Prop where
 len:s.tx.length≤200
 lo:0≤s.at_
 hi:s.at_≤s.tx.length
def tU (K:Nat)(s:PS):Prop:=∀x,s.now=some x→x.2.length≤K
theorem Th {p K:Nat}{key:Int}(h:Db w col p v s)(hl:pL s)(hm:s.mode=1∨s.mode=2)(hk:tU K s)(hK:K≤1000000000)(hq:s.told.length≤1000000000000):
 Calls Tryz.prog 32 #[.pointer (some ⟨p,0,none⟩),.int .i64 key] w fun e w'=>e=.returned (.tuple #[])∧Br p w col (Eb s key) w':=by
 obtain⟨a,ha⟩:∃a:Nat,s.at_=a:=⟨s.at_.toNat,by have:=hl.lo;omega⟩
 have hal:a≤s.tx.length:=by have:=hl.hi;omega
 by_cases h27:key=27
 ·subst h27
  have HL:=A4 (nG h ha (by have:=hl.len;omega))
  have HF:Hid (Eb s 27={ s with at_:=max 0 ((a:Int)-1),mode:=0,last:=s.now.or s.last,now:=none }):=A4 (by unfold Eb Xe;rw[if_pos rfl,ha])
  clear h hl hm hk ha;go_enter Tryz.func32,Tryz.ntmps32
  go_wp2_with fail
  refine HL.out.mono ?_
  rintro e w1 ⟨rfl,h1⟩;have H1:=A4 h1;clear h1 HL;exact I90
 ·have hkb:(key==27)=false:=by simpa using h27
  have HF:Hid (Eb s key=match Hy s.mode s.tx a key with|none=>Fe s|some (m,b)=>{ s with tx:=m,at_:=b,now:=s.now.map fun x=>(x.1,x.2++[key]) }):=A4 (by unfold Eb;rw[if_neg h27,ha];rfl)
  have HLn:=A4 (Su h (show s.tx.length≤4096 by have:=hl.len;omega))
  have HLl:=A4 hl;have HKl:=A4 hk;have HB:Hid (∀wq,Al w wq→An wq p 65 (Ll v s)):=A4 fun wq he=>h.ses.blk.ext he
  have H:=A4 h;have HA:=A4 ha;have HAL:=A4 hal;have HM:=A4 hm;clear h hl hk ha hm h27 hal;go_enter Tryz.func32,Tryz.ntmps32
  go_upto_region 2 with fail
  refine wp_region_held_drew (S:=fun w'=>Al w w') (by kernel_rfl) (Al.drew w) (fun hS=>?_)
  refine B8 (i:=0) (v:=(.pointer (some ⟨p,0,none⟩))) rfl hS ?_
  refine B8 (i:=2) (v:=(.pointer (some ⟨p,0,none⟩))) rfl hS ?_
  refine B8 (i:=3) (v:=(.pointer (some ⟨p,0,none⟩))) rfl hS ?_
  refine B8 (i:=4) (v:=(.pointer (some ⟨p,2,none⟩))) rfl hS ?_
  refine F4 (i:=5) (v:=(.int .i64 s.mode)) rfl (fun w' hSw=>by have e0:w'.cell? ⟨p,2,none⟩=some (.int .i64 s.mode):=(HB.out _ hSw).cell 2;go_simp) hS ?_
  refine B8 (i:=6) (v:=(.int .i64 key)) rfl hS ?_
  have HLn':Hid (∀wq,Al w wq→Calls Tryz.prog 15 #[.pointer (some ⟨p,0,none⟩)] wq fun e w'=>∃u,e=.returned u∧(∃A n c,u=.agg #[.slice A n c,.int .i64 a]∧Av w' wq.heap.size A n c s.tx)∧Al wq w'):=
   A4 fun wq he=>by have hh:=Su (H.out.ext he) (show s.tx.length≤4096 by have:=HLl.out.len;omega);rw[HA.out]at hh;exact hh
  clear HLn;generalize w.drew=cur at*
  iterate 3
   all_goals (first|refine wpAnyH_ready (rs:=[1,11]) (by decide +kernel) (by simp) (Ah rfl (fun K hK=>?_) (Ah rfl (fun K hK=>?_) Ak))|refine wpAnyH_ready (rs:=[7,11]) (by decide +kernel) (by simp) (Ah rfl (fun K hK=>?_) (Ah rfl (fun K hK=>?_) Ak))|refine wpAnyH_ready (rs:=[1]) (by decide +kernel) (by simp) (Ah rfl (fun K hK=>?_) Ak)|refine wpAnyH_ready (rs:=[7]) (by decide +kernel) (by simp) (Ah rfl (fun K hK=>?_) Ak)|refine wpAnyH_ready (rs:=[11]) (by decide +kernel) (by simp) (Ah rfl (fun K hK=>?_) Ak))
   all_goals (first
    |(
     refine C9 rfl 48 #[.agg #[.slice A n c,.int .i64 a],.int .i64 s.mode,.int .i64 key] rfl (by kernel_rfl) (fun u w'=>∃B q d b er,u=.tuple #[.agg #[.slice B q d,.int .i64 b],.int .i64 er]∧Yi (Hy s.mode s.tx a key) B q d b er w') (xQ hoL (by rw[←hoL.ints.len];exact HLl.out.len) (by rw[←hoL.ints.len];exact HAL.out) HM.out) ?_
     rintro u w3 ⟨B,q,d,b,er,rfl,hR⟩ hE;refine hK.out _ _ (hS.trans hE) (fun hS'=>?_)
     clear hK K hoL
     try replace hb4:=An.ext hb4 hE
     replace hS:=hS';clear hS' hE
     try simp only[Ab,A7,Aa,Am,A6,Ac,Ad]
     refine B8 (i:=8) (v:=.tuple #[.agg #[.slice B q d,.int .i64 b],.int .i64 er]) rfl hS ?_
     refine B8 (i:=9) (v:=.agg #[.slice B q d,.int .i64 b]) rfl hS ?_
     refine wpAnyH_take (i:=10) (v:=.int .i64 er) rfl (by kernel_rfl) (by kernel_rfl) (by kernel_rfl) (fun _ _ _ h=>h) (Or.inl ⟨by rfl,by(intro w' hSw;go_simp)⟩) hS ?_
     try simp only[Ab,A7,Aa,Am,A6,Ac,Ad])
    |(
     refine C9 rfl 15 #[.pointer (some ⟨p,0,none⟩)] rfl (by kernel_rfl) (fun u w'=>∃A n c,u=.agg #[.slice A n c,.int .i64 a]∧Av w' (World.heap _).size A n c s.tx) (HLn'.out _ hS) ?_
     rintro u w2 ⟨A,n,c,rfl,hoL⟩ hE;refine hK.out _ _ (hS.trans hE) (fun hS'=>?_)
     clear hK K;replace hoL:Av _ 0 A n c s.tx:=Ay.lower hoL (Nat.zero_le _)
     try replace hb4:=An.ext hb4 hE
     replace hS:=hS';clear hS' hE
     try simp only[Ab,A7,Aa,Am,A6,Ac,Ad])
    |(
     go_simp
     refine hK.out _ _ (hS.to_alloc (.cells #[.slice none 0 0,.int .i64 0] 34)) (fun hS'=>?_)
     clear hK K;have hE:=L2 hS'
     try replace hoL:=Av.ext hoL hE
     try replace hR:=hR.ext hE
     have hb4:=fI hS';have hz4:=hS.hsize;replace hS:=hS';clear hS' hE;generalize World.alloc _ _=nx at*
     try simp only[Ab,A7,Aa,Am,A6,Ac,Ad]))
  all_goals
   have e40:=hb4.cell 0;have e41:=hb4.cell 1;have f40:=hb4.frozen 0;have f41:=hb4.frozen 1;simp only[Ag,Ae,Af]at e40 e41;refine wpAnyH_ready (rs:=[12]) (by decide +kernel) (by simp) (Ah rfl (fun K hK=>?_) Ak)
   go_simp
   have hR':=hR.set2 hb4 (by decide) (.slice B q d) (.int .i64 b)
   have hb4':=Ds hb4 (.slice B q d) (.int .i64 b);have hS':=Dr hS hz4 (.slice B q d) (.int .i64 b);clear e40 e41 f40 f41 hb4 hR hS;generalize Bb (Bb _ _ _) _ _=W4 at*;refine hK.out _ _ hS' (fun hS=>?_)
   clear hK K hS'
   try simp only[Ab,A7,Aa,Am,A6,Ac,Ad]
   refine wpAnyH_ready (rs:=[13]) (by decide +kernel) (by simp) (Ah rfl (fun K hK=>?_) Ak)
   go_simp
   refine hK.out _ _ hS (fun _=>?_)
   clear hK K;refine wpAnyH_done (by kernel_rfl) ?_ _
   have hTr:Hid (Kp w col W4 col):=A4 ⟨hS.alt _,fun _ _ h=>h,fun _ _ h=>h⟩
   rcases hR' with⟨rfl,m,a',hkm,rfl,hI⟩|⟨her,hkn⟩
   ·have hml:=Tx hkm HLl.out.len HAL.out
    have e40:=hb4'.cell 0;have e41:=hb4'.cell 1;simp only[Ag,Ae,Af]at e40 e41;have HSt:=A4 (aQ (a:=a') (H.out.ext hS) hI.ints (by rw[←hI.ints.len];omega))
    have HKM:=A4 hkm;clear hI hb4' hkm;go_wp2_with fail
    refine HSt.out.mono ?_
    rintro e w6 ⟨rfl,tq,hmid,htr⟩;have HTR:=A4 (hTr.out.trans htr);have d47:w6.cell? ⟨p,47,none⟩=some (.pointer v.now):=hmid.ses.blk.cell 47;have HMid:=A4 hmid;clear hmid htr;have hN:=HMid.out.ses.now;cases hv:v.now with
    |none=>
     rw[hv]at d47;have hsn:s.now=none:=by
      have hN:Py w6 col v.now s.now:=hN;rw[hv]at hN;rcases hs:s.now with _|⟨c',l'⟩
      ·rfl
      ·rw[hs]at hN;exact absurd hN (fun h=>h)
     clear hN;go_wp2_with fail
     go_end0
     have e:(s.now.map fun x=>(x.1,x.2++[key]))=s.now:=by rw[hsn];rfl
     have hfin:Br p w col { s with tx:=m,at_:=(a':Int),now:=s.now.map fun x=>(x.1,x.2++[key]) } w6:=by rw[e];exact⟨_,_,HMid.out,HTR.out⟩
     refine⟨rfl,?_⟩
     rw[HF.out,HKM.out];exact hfin
    |some qa=>
     rw[hv]at d47;have hN:Py w6 col v.now s.now:=hN;rw[hv]at hN;rcases hs:s.now with _|⟨c',l'⟩
     ·rw[hs]at hN;exact absurd hN (fun h=>h)
     ·rw[hs]at hN
      obtain⟨qq,y,rfl,g1,g2,⟨A5,n5,k5,rfl,g3,g4,g6⟩,g5⟩:=hN;have hlen5:l'.length=n5:=g3.ints.len;have hn5:n5≤1000000000:=by have:=HKl.out _ hs;simp at this;omega
      obtain⟨i0,hi,hz0,hz1,hz2⟩:=info_parts Bz;have HG:=A4 (And.intro g2 g3);have e5:w6.cell? ⟨qq,5,none⟩=some (.slice A5 n5 k5):=g2.cell 5;have HHS:=A4 hs;have HHV:=A4 hv;have G5:=A4 g5;have G1:=A4 g1;clear g1 g2 g3 g4 g6 g5 hv hs;go_upto_region 7 with fail
      refine wp_region_held_drew (S:=fun w'=>w'.cell? ⟨p,47,none⟩=some (.pointer (some ⟨qq,0,none⟩))) (by kernel_rfl) d47 (fun hS=>?_)
      refine B8 (i:=0) (v:=(.pointer (some ⟨p,0,none⟩))) rfl hS ?_
      refine B8 (i:=1) (v:=(.pointer (some ⟨p,0,none⟩))) rfl hS ?_
      refine B8 (i:=2) (v:=(.pointer (some ⟨p,47,none⟩))) rfl hS ?_
      refine F4 (i:=3) (v:=(.pointer (some ⟨qq,0,none⟩))) rfl (fun w' hSw=>by have e0:=hSw;go_simp) hS ?_
      refine B8 (i:=4) (v:=(.pointer (some ⟨p,0,none⟩))) rfl hS ?_
      refine B8 (i:=5) (v:=(.pointer (some ⟨p,0,none⟩))) rfl hS ?_
      refine B8 (i:=6) (v:=(.pointer (some ⟨p,47,none⟩))) rfl hS ?_
      refine F4 (i:=7) (v:=(.pointer (some ⟨qq,0,none⟩))) rfl (fun w' hSw=>by have e0:=hSw;go_simp) hS ?_
      refine B8 (i:=8) (v:=(.pointer (some ⟨qq,0,none⟩))) rfl hS ?_
      refine B8 (i:=9) (v:=(.pointer (some ⟨qq,5,none⟩))) rfl hS ?_
      refine B8 (i:=11) (v:=(.int .i64 key)) rfl hS ?_
      have hg2:An w6.drew qq 112 (Ma c'++#[.slice A5 n5 k5]):=HG.out.1;have hg3:Av w6.drew 0 A5 n5 k5 l':=HG.out.2;have hgM:Db w6.drew col p _ _:=HMid.out.ext (Al.drew w6);have hpl:=hgM.ses.blk;clear d47 e5 HG HMid hS;have HTR':Hid (Kp w col w6.drew col):=A4 (HTR.out.trans ⟨(Al.drew w6).alt _,fun _ _ h=>h,fun _ _ h=>h⟩)
      clear HTR;generalize w6.drew=cur at*;have hne:(Aj A5 n5 k5).ownBlock≠some p:=Mh hg3 hpl (by decide)
      have hnq:(Aj A5 n5 k5).ownBlock≠some qq:=Mh hg3 hg2 (by decide)
      have hSp:cur.cell? ⟨p,47,none⟩=some (.pointer (some ⟨qq,0,none⟩)):=(hpl.cell 47).trans (congrArg (fun x=>some (Value.pointer x)) HHV.out)
      have hSa:(cur.alloc (.cells #[.int .i64 key] 3)).cell? ⟨p,47,none⟩=some (.pointer (some ⟨qq,0,none⟩)):=Al.cell (Al.alloc _ _) hSp;have hq5:cur.cell? ⟨qq,5,none⟩=some (.slice A5 n5 k5):=hg2.cell 5;have hqa:(cur.alloc (.cells #[.int .i64 key] 3)).cell? ⟨qq,5,none⟩=some (.slice A5 n5 k5):=Al.cell (Al.alloc _ _) hq5;refine wpAnyH_ready (rs:=[10,12]) (by decide +kernel) (by simp) (Ah rfl (fun K hK=>?_) (Ah rfl (fun K hK=>?_) Ak))
      ·have N0:=trivial;exact wS
      ·have N1:=trivial;exact wS
   ·have hek:(er !=0)=true:=by simpa using her
    have HBl:=A4 (Js (H.out.ext hS) hq);have HKN:=A4 hkn;clear hb4' hkn her;go_wp2_with fail
    refine HBl.out.mono ?_
    rintro e w6 ⟨rfl,hm⟩;have HMm:=A4 (Br.trans hTr.out hm);clear hm;go_wp2_with fail
    refine bodyPost_ret (results_none rfl _ _ _) rfl ⟨rfl,?_⟩
    rw[HF.out,HKN.out];exact HMm.out
theorem Db.drop (h:Db w col p v s):Db (w.setCell ⟨p,47,none⟩ (.pointer none)) col p { v with now:=none } { s with now:=none }∧Kp w col (w.setCell ⟨p,47,none⟩ (.pointer none)) col:=by
 have h7:=h.ses.own;have c:=(Dh.start (Al.refl w) h.ses.blk).set 47 (.pointer none);have hm:∀c,c≠7→∀k,k<w.heap.size→k=p→col k≠c:=fun c hc k _ e=>by rw[e,h7];exact fun e=>hc e.symm
 exact⟨⟨⟨c.to (by kernel_rfl),h7,(h.old c.alt).imp fun _ h=>⟨h.1,h.2,h.3,h.4,h.5,h.6,h.7,h.8⟩,trivial,fun k hk=>Nat.lt_of_lt_of_le (h.ses.dom k hk) c.alt.size⟩,h.told.turn c.alt (fun k h1 h2=>⟨hm 4 (by decide) k h1 h2,hm 5 (by decide) k h1 h2⟩) fun _ _=>rfl,h.vis.turn c.alt (hm 6 (by decide)) fun _ _=>rfl⟩,c.alt.mono fun k _ e=>by rw[e,h7];decide,fun _ _ h=>h,fun _ _ h=>h⟩
def aO (w:World)(p:Nat)(a b c d e f:Value):World:=(((((w.setCell ⟨p,37,none⟩ a).setCell ⟨p,38,none⟩ b).setCell ⟨p,39,none⟩ c).setCell ⟨p,40,none⟩ d).setCell ⟨p,41,none⟩ e).setCell ⟨p,42,none⟩ f
theorem Db.hist {p b:Nat}{hi:Hi}{a d e:Value}(h:Db w col p v s)(he:Al w w')(hh:D3 w' b (.agg #[a,.int .i64 hi.most,.int .i64 hi.at_,d,e,.bool hi.older]) hi)(hb:w.heap.size≤b):
 ∃col',Db (aO w' p a (.int .i64 hi.most) (.int .i64 hi.at_) d e (.bool hi.older)) col' p { v with h0:=a,h3:=d,h4:=e } { s with hi:=hi }∧Kp w col (aO w' p a (.int .i64 hi.most) (.int .i64 hi.at_) d e (.bool hi.older)) col'∧∀k,k<w.heap.size→col' k=col k:=by
 obtain⟨hm,ht⟩:=h.grow he 1;have hD:Ht (fun k=>Go.Proofs.YtiahhfglhlgfiaaGreat.grow col w.heap.size w'.heap.size 1 k=1) w' fun x=>D3 x 0 (.agg #[a,.int .i64 hi.most,.int .i64 hi.at_,d,e,.bool hi.older]) hi:=
  Ht.his hh fun k h1 h2=>Hn (Nat.le_trans hb h1) h2
 have c:=((((((Dh.start (Al.refl w') hm.ses.blk).set 37 a).set 38 (.int .i64 hi.most)).set 39 (.int .i64 hi.at_)).set 40 d).set 41 e).set 42 (.bool hi.older);have hr:=hm.chainD hD c { v with h0:=a,h3:=d,h4:=e } { s with hi:=hi } (by kernel_rfl) fun w'' htr ho' hd'=>⟨hd'.1,hd'.2,hd'.3,ho',hd'.5,hd'.6,hd'.7,hd'.8⟩
 exact⟨_,hr.1,ht.trans hr.2,fun k hk=>Ty hk⟩
theorem D3.form {b:Nat}{u:Value}{h:Hi}(hh:D3 w b u h):∃A n c S sn sc P pn pc,u=.agg #[.slice A n c,.int .i64 h.most,.int .i64 h.at_,.slice S sn sc,.slice P pn pc,.bool h.older]:=by
 obtain⟨A,n,c,S,sn,sc,P,pn,pc,e,_⟩:=hh;exact⟨A,n,c,S,sn,sc,P,pn,pc,e⟩
noncomputable def Sw (s:PS):PS:=Yg { s with hi:=Pl s.hi s.tx,told:=s.told++[(2,s.tx)],now:=none } [] 1
theorem kE (h:Db w col p v s)(hl:s.tx.length≤200)(hq:s.told.length≤1000000000000):
 Calls Tryz.prog 29 #[.pointer (some ⟨p,0,none⟩)] w fun e w'=>e=.returned (.tuple #[])∧Br p w col (Sw s) w':=by
 have hd:=h.ses.dat.here;have hb:=h.ses.blk;have d0:w.cell? ⟨p,0,none⟩=some (.pointer v.tr):=hb.cell 0;have HC:=A4 (Fs hd.tr (by omega))
 have H:=A4 h;have HL:=A4 hl;clear h hd hb hl;go_enter Tryz.func29,Tryz.ntmps29
 go_wp2_with fail
 refine HC.out.mono ?_
 rintro e w1 ⟨_,rfl,⟨A,c,rfl,hA⟩,he⟩;obtain⟨hm1,ht1⟩:=H.out.grow he 5;have hD5:Ht (fun k=>Go.Proofs.YtiahhfglhlgfiaaGreat.grow col w.heap.size w1.heap.size 5 k=5) w1 fun x=>Bg x 0 (.slice A s.tx.length c) s.tx:=
  Ht.reg (b:=w.heap.size) ⟨A,_,c,rfl,hA,Ay.nocap' hA,by have:=HL.out;omega⟩ fun k h1 h2=>Hn h1 h2
 generalize Go.Proofs.YtiahhfglhlgfiaaGreat.grow col w.heap.size w1.heap.size 5=col1 at*;have hd1:=hm1.ses.dat.here;obtain⟨A0,n0,c0,S0,sn0,sc0,P0,pn0,pc0,hform⟩:=hd1.his.form;have HAd:=A4 (xW hd1.his.v (Av.ints hA) (Ay.nocap' hA));have hb1:=hm1.ses.blk;have d37:w1.cell? ⟨p,37,none⟩=some v.h0:=hb1.cell 37;have d38:w1.cell? ⟨p,38,none⟩=some (.int .i64 s.hi.most):=hb1.cell 38;have d39:w1.cell? ⟨p,39,none⟩=some (.int .i64 s.hi.at_):=hb1.cell 39;have d40:w1.cell? ⟨p,40,none⟩=some v.h3:=hb1.cell 40;have d41:w1.cell? ⟨p,41,none⟩=some v.h4:=hb1.cell 41;have d42:w1.cell? ⟨p,42,none⟩=some (.bool s.hi.older):=hb1.cell 42;have HM1:=A4 hm1;have HT1:=A4 ht1;have HD5:=A4 hD5;clear hd1 hform hm1 ht1 hD5 hb1 hA d0;go_wp2_with fail
 refine HAd.out.mono ?_
 rintro e w2 ⟨u,x,rfl,hu,he2⟩;obtain⟨A1,n1,c1,S1,sn1,sc1,P1,pn1,pc1,rfl⟩:=hu.form;obtain⟨col2,hm2,ht2,hc2⟩:=HM1.out.hist he2 hu (Nat.le_refl _);have hb2:=HM1.out.ses.blk.ext he2;have fz:=hb2.frozen;have e37:w2.cell? ⟨p,37,none⟩=some v.h0:=hb2.cell 37;have e38:w2.cell? ⟨p,38,none⟩=some (.int .i64 s.hi.most):=hb2.cell 38;have e39:w2.cell? ⟨p,39,none⟩=some (.int .i64 s.hi.at_):=hb2.cell 39;have e40:w2.cell? ⟨p,40,none⟩=some v.h3:=hb2.cell 40;have e41:w2.cell? ⟨p,41,none⟩=some v.h4:=hb2.cell 41;have e42:w2.cell? ⟨p,42,none⟩=some (.bool s.hi.older):=hb2.cell 42;have hT:Hid (∀wx cx,Kp (aO w2 p (.slice A1 n1 c1) (.int .i64 (Pl s.hi s.tx).most) (.int .i64 (Pl s.hi s.tx).at_) (.slice S1 sn1 sc1) (.slice P1 pn1 pc1) (.bool (Pl s.hi s.tx).older)) col2 wx cx→Kp w col wx cx):=A4 fun wx cx hx=>HT1.out.trans (ht2.trans hx)
 have HTl:=A4 (Sn (k:=2) (y:=.slice A s.tx.length c) (l:=s.tx) hm2 (by
  have ha:Fp (fun k=>k=p) w1 (aO w2 p (.slice A1 n1 c1) (.int .i64 (Pl s.hi s.tx).most) (.int .i64 (Pl s.hi s.tx).at_) (.slice S1 sn1 sc1) (.slice P1 pn1 pc1) (.bool (Pl s.hi s.tx).older)):=
   ((((((Dh.start he2 (HM1.out.ses.blk.ext he2)).set 37 _).set 38 _).set 39 _).set 40 _).set 41 _ |>.set 42 _).alt
  exact HD5.out.turn ha (fun k _ e=>by rw[e,HM1.out.ses.own];decide) hc2) hq)
 unfold aO at HTl hT;clear hm2 ht2 hc2 hb2 hu HD5 HM1;go_wp2_with fail
 refine HTl.out.mono ?_
 rintro e w3 ⟨rfl,col3,v3,hm3,ht3⟩;have e47:w3.cell? ⟨p,47,none⟩=some (.pointer v3.now):=hm3.ses.blk.cell 47;have f47:=hm3.ses.blk.frozen 47;obtain⟨hm4,ht4⟩:=hm3.drop;have HB:=A4 (Mv (md:=1) hm4 (Bi.none_ _) (by omega))
 have HT4:=A4 (hT.out _ _ (ht3.trans ht4));clear hm3 ht3 hm4 ht4 hT HTl;go_wp2_with fail
 refine HB.out.mono ?_
 rintro e w5 ⟨rfl,h5⟩;have H5:=A4 (Br.trans HT4.out h5);clear h5;go_wp2_with fail
 go_end0
 exact⟨rfl,H5.out⟩
def Mi (s:PS)(hi:Hi)(line:List Int):PS:=Yg { s with hi:=hi } line 0
theorem nA {a d e:Value}{mo wh er:Int}{ol:Bool}{L:Value}(h:Db w col p v s)(her:er≠0)(hq:s.told.length≤1000000000000):
 Calls Tryz.prog 43 #[.pointer (some ⟨p,0,none⟩),.agg #[a,.int .i64 mo,.int .i64 wh,d,e,.bool ol],L,.int .i64 er] w fun e w'=>e=.returned (.tuple #[])∧Br p w col (Fe s) w':=by
 have hx:=Al.alloc w (.cells #[a,.int .i64 mo,.int .i64 wh,d,e,.bool ol] 54);have HB:=A4 (Js (h.ext hx) hq);have hT:Hid (Kp w col _ col):=A4 ⟨hx.alt _,fun _ _ h=>h,fun _ _ h=>h⟩
 have heb:(er !=0)=true:=by simpa using her
 clear h hx her;go_enter Tryz.func43,Tryz.ntmps43
 go_wp2_with fail
 refine HB.out.mono ?_
 rintro e w1 ⟨rfl,h1⟩;have H1:=A4 (Br.trans hT.out h1);clear h1;go_wp2_with fail
 refine bodyPost_ret (results_none rfl _ _ _) rfl ⟨rfl,H1.out⟩
theorem mZ {w0 w:World}{p m z:Nat}{A0 S0 P0 L:Option Addr}{n0 c0 sn sc pn pc:Nat}{hi:Hi}{line:List Int}(h:Db w0 col p v s)(he:Al w0 w)
 (hh:D3 w w0.heap.size (.agg #[.slice A0 n0 c0,.int .i64 hi.most,.int .i64 hi.at_,.slice S0 sn sc,.slice P0 pn pc,.bool hi.older]) hi) (hI:Av w w0.heap.size L m z line) (hm:m≤4096):
 Calls Tryz.prog 43 #[.pointer (some ⟨p,0,none⟩),.agg #[.slice A0 n0 c0,.int .i64 hi.most,.int .i64 hi.at_,.slice S0 sn sc,.slice P0 pn pc,.bool hi.older],.slice L m z,.int .i64 0] w fun e w'=>e=.returned (.tuple #[])∧Br p w0 col (Mi s hi line) w':=by
 have hx:=Al.alloc w (.cells #[.slice A0 n0 c0,.int .i64 hi.most,.int .i64 hi.at_,.slice S0 sn sc,.slice P0 pn pc,.bool hi.older] 54);have hbx:=An.new w 54 #[.slice A0 n0 c0,.int .i64 hi.most,.int .i64 hi.at_,.slice S0 sn sc,.slice P0 pn pc,.bool hi.older];obtain⟨col1,hm1,ht1,hc1⟩:=h.hist (he.trans hx) (hh.ext hx) (Nat.le_refl _);have hp:=h.ses.blk.ext (he.trans hx);have hlt:=Nat.lt_of_lt_of_le h.ses.blk.lt he.hsize;have n1:¬p=w.heap.size:=by omega
 have n2:¬w.heap.size=p:=by omega
 have hpl:p<w0.heap.size:=h.ses.blk.lt;have hIs:Bi (aO (w.alloc (.cells #[.slice A0 n0 c0,.int .i64 hi.most,.int .i64 hi.at_,.slice S0 sn sc,.slice P0 pn pc,.bool hi.older] 54)) p (.slice A0 n0 c0) (.int .i64 hi.most) (.int .i64 hi.at_) (.slice S0 sn sc) (.slice P0 pn pc) (.bool hi.older)) L m z line:=Av.ints ((((((Ay.setCell (Av.ext hI hx) (p:=⟨p,37,none⟩) hpl _).setCell (p:=⟨p,38,none⟩) hpl _).setCell (p:=⟨p,39,none⟩) hpl _).setCell (p:=⟨p,40,none⟩) hpl _).setCell (p:=⟨p,41,none⟩) hpl _).setCell (p:=⟨p,42,none⟩) hpl _);have HB:=A4 (Mv (md:=0) hm1 hIs hm);have HT:=A4 ht1;unfold aO at HB HT;clear h he hh hx hm1 ht1 hc1 hIs hI;go_enter Tryz.func43,Tryz.ntmps43
 go_upto_region 1 with fail
 generalize w.alloc (.cells #[.slice A0 n0 c0,.int .i64 hi.most,.int .i64 hi.at_,.slice S0 sn sc,.slice P0 pn pc,.bool hi.older] 54)=W at*;obtain⟨x0,x1,x2,x3,x4,x5⟩:=Cg hbx;have fz:=hp.frozen;have e37:W.cell? ⟨p,37,none⟩=some v.h0:=hp.cell 37;have e38:W.cell? ⟨p,38,none⟩=some (.int .i64 s.hi.most):=hp.cell 38;have e39:W.cell? ⟨p,39,none⟩=some (.int .i64 s.hi.at_):=hp.cell 39;have e40:W.cell? ⟨p,40,none⟩=some v.h3:=hp.cell 40;have e41:W.cell? ⟨p,41,none⟩=some v.h4:=hp.cell 41;have e42:W.cell? ⟨p,42,none⟩=some (.bool s.hi.older):=hp.cell 42;clear hbx hp;go_wp2_with fail
 refine HB.out.mono ?_
 rintro e w1 ⟨rfl,h1⟩;have H1:=A4 (Br.trans HT.out h1);clear h1;go_wp2_with fail
 go_end0
 exact⟨rfl,H1.out⟩
end
