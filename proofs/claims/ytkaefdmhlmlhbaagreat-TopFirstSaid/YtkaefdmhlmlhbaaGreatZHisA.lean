/-
  Part ZHisA.
-/
import Derived.Test.YtkaefdmhlmlhbaaGreatZRegQ
import Derived.Test.YtkaefdmhlmlhbaaGreatZRinsL
import Derived.Deep.CutRange
set_option maxRecDepth 100000
set_option maxHeartbeats 16000000
set_option linter.unusedVariables false
set_option linter.unusedSimpArgs false
namespace Go.Proofs.YtkaefdmhlmlhbaaGreat
open Go.RowKit
open _root_.Go.Proofs.Tryz
open _root_.List renaming length_drop→Dd
open Value renaming slice→Ak
open _root_.Nat renaming le_trans→Ar
section
variable {xs:List Value}{ls:List (List Int)}{N:Option Addr}{line:List Int}{v:Value}{w:World}
def kD {α:Type}(m:Nat)(l:List α):List α:=l.drop (l.length-min l.length m)
def Nd (h:Hi)(line:List Int):List (List Int):=if line.length=0 then h.lines else kD h.most.toNat (h.lines++[line])
def rD (h:Hi)(line:List Int):Hi:=⟨Nd h line,h.most,(Nd h line).length,[],h.pattern,h.older⟩
def AOk (h:Hi)(line:List Int):Prop:=¬h.bad∧¬h.long∧line.length≤200
def J7h (h:Hi)(line:List Int)(w:World)(e:Ending)(w':World):Prop:=
 An w w'∧((AOk h line∧∃u,e=.returned (.tuple #[u,(0:Int)])∧Dp w' w.heap.size u (rD h line))∨
  (¬AOk h line∧∃x:Int,e=.returned (.tuple #[.agg Eb,x])∧x≠0))
theorem Hj {P:Program}{fn:Func}{p q:Tmp}{ty:TypeId}(h:fn.results=#[.cell p ty,.tmp q])(tmps:Array Value)(w:World)(g:Nat)(t:TypeId)(cs:Array Value)(fr:Nat×Nat)(d:TypeDesc)(v:Value)
 (hp:tmps.getD p undef=.pointer (some ⟨g,0,none⟩)) (hq:tmps.getD q undef=v) (hg:w.heap[g]? = some (.cells cs t fr))
 (hu:P.underlying ty=some d) (hd:(match d with|.struct _|.array _ _=>true|_=>false)=true) (hi:(P.info? ty).map (·.size)=some cs.size):
 (results fn tmps).run P w=.ok (.tuple #[.agg cs,v]) w:=by
 have ji:tmps[p]?.getD undef=.pointer (some ⟨g,0,none⟩):=by simpa using hp
 exact I40
theorem uQ {w w2 w3:World}{b k d d3:Nat}{N:List Nat}{O O3:Option Addr}{l:List Int}(h1:Bd w b 25 1 O k d xs)(h2:Ud w b (Ak O k d).ownBlock xs ls)
 (h4:∀k',(Ak O k d).ownBlock=some k'→k'∉N) (h5:∀(i:Nat) v,xs[i]? = some v→∀k,v.ownBlock=some k→k∉N) (hN:∀k,k∈N→k<w2.heap.size) (he:An w w2)
 (hv:Bl w2 b v l) (JA:∀g,v.ownBlock=some g→w.heap.size≤g∧g∉N) (cv:Bd w3 b 25 1 O3 (k+1) d3 (xs++[v])) (av:w2.grownBy w3 (Ak O k d).ownBlock)
 (cf:(Ak O3 (k+1) d3).ownBlock=(Ak O k d).ownBlock∨∃g,w2.heap.size≤g∧(Ak O3 (k+1) d3).ownBlock=some g):Mx w3 b N O3 (k+1) d3 (ls++[l]):=by
 have DB:∀g,(Ak O k d).ownBlock=some g→g<w.heap.size:=fun g hg=>(Bd.blk h1 g hg).2
 have jn:v.ownBlock=none∨v.ownBlock≠(Ak O k d).ownBlock:=by
  cases hb:v.ownBlock with
  |none=>exact .inl rfl
  |some g=>exact .inr (fun e=>by have h1:=(JA g hb).1;have h2:=DB g e.symm;omega)
 have kt:v.ownBlock=none∨v.ownBlock≠(Ak O3 (k+1) d3).ownBlock:=by
  cases hb:v.ownBlock with
  |none=>exact .inl rfl
  |some g=>exact .inr (fun e=>by
   rcases cf with h2|⟨g',h2,h3⟩
   ·rw[h2]at e;have:=DB g e.symm;have:=(JA g hb).1;omega
   ·rw[h3]at e;injection e with e;have:=(hv.blk g hb).2;omega)
 have jz:Bl w3 b v l:=by
  obtain⟨A,n,c,rfl,k1,k2⟩:=hv;exact⟨A,n,c,rfl,Bd.kept k1 av jn,k2⟩
 refine⟨xs++[v],cv,((h2.ext he).grown av cf).snoc jz kt,Bd.nocap' cv,fun k' di hn=>?_,fun i u hu k' di=>?_⟩
 ·rcases cf with h|⟨g,hg,h⟩
  ·rw[h]at di;exact h4 k' di hn
  ·rw[h]at di;injection di with di;have:=hN k' hn;omega
 ·rcases Nat.lt_or_ge i xs.length with hi|hi
  ·rw[List.getElem?_append_left hi]at hu
   exact h5 i u hu k' di
  ·rw[List.getElem?_append_right hi]at hu
   have:i-xs.length=0:=by
    have:=(List.getElem?_eq_some_iff.1 hu).1;simp at this;omega
   rw[this]at hu;simp at hu;subst hu;exact(JA k' di).2
theorem J3d (h:fI w xs ls):∃lv:List RS.Sl,lv.map RS.Sl.v=xs:=by
 have:∀xs:List Value,(∀v∈xs,∃s:RS.Sl,s.v=v)→∃lv:List RS.Sl,lv.map RS.Sl.v=xs:=by
  intro xs
  induction xs with
  |nil=>exact fun _=>⟨[],rfl⟩
  |cons v xs ih=>
   intro hh;obtain⟨s,hs⟩:=hh v List.mem_cons_self;obtain⟨lv,DN⟩:=ih (fun u hu=>hh u (List.mem_cons_of_mem _ hu))
   exact⟨s::lv,by simp[hs,DN]⟩
 refine this xs fun v hv=>?_
 obtain⟨i,hi,rfl⟩:=List.mem_iff_getElem.1 hv;obtain⟨v,h1,A,n,c,rfl,_⟩:=h.2 i (by rw[←h.1];exact hi)
 rw[List.getElem?_eq_getElem hi]at h1;injection h1 with h1;exact⟨⟨A,n,c⟩,h1.symm⟩
theorem uR {wr w8:World}{b z8 c8 d:Nat}{O3 A8:Option Addr}{n3 d3 base:Nat}{N M:List Nat}{lv:List RS.Sl}{L:List (List Int)}(h1:Ud wr b (Ak O3 n3 d3).ownBlock xs L)(h5:∀(i:Nat) v,xs[i]? = some v→∀k,v.ownBlock=some k→k∉N)
 (DN:lv.map RS.Sl.v=xs) (he:An wr w8) (hO:RS.OwnS w8 base A8 z8 c8 (lv.drop d)) (fy:base=wr.heap.size) (EZ:b≤base) (hMN:∀k,k∈M→k∈N∧k<wr.heap.size):Mx w8 b M A8 z8 c8 (L.drop d):=by
 subst fy;have jn:∀k,(Ak A8 z8 c8).ownBlock=some k→wr.heap.size≤k:=fun k hk=>(Bd.blk hO k hk).1
 have nc:∀i,((lv.drop d).map RS.Sl.v)[i]? = xs[d+i]? := fun i=>by rw[List.map_drop,DN,List.getElem?_drop]
 have hgl:∀i,gL (L.drop d) i=gL L (d+i):=fun i=>by unfold gL;rw[List.getElem?_drop]
 refine⟨(lv.drop d).map RS.Sl.v,Bd.lower hO EZ,⟨?_,fun i hi=>?_⟩,Bd.nocap' hO,fun k hk hn=>?_,fun i v hv k hk hn=>?_⟩
 ·rw[List.map_drop,DN,Dd,Dd,h1.1]
 ·rw[Dd]at hi
  obtain⟨v,k1,k2,_⟩:=h1.2 (d+i) (by omega)
  refine⟨v,by rw[nc];exact k1,by rw[hgl];exact k2.ext he,?_⟩
  cases hb:v.ownBlock with
  |none=>exact .inl rfl
  |some g=>exact .inr (fun e=>by have:=(k2.blk g hb).2;have:=jn g e.symm;omega)
 ·have:=jn k hk
  have:=(hMN k hn).2;omega
 ·rw[nc]at hv
  exact h5 _ v hv k hk (hMN k hn).1
theorem J5i {h:Hi}{q y:Nat}(hv:My w v h)(jh:Bj w N q y line)(hN:N=none→y=0):
 Calls prog 82 #[v,.slice N q y] w (J7h h line w):=by
 obtain⟨i0,hi,bm,bz,az⟩:=info_parts Ns;have HI:=A6 hi;clear hi;have HV:=A6 hv;obtain⟨A,n,c,S,sn,sc,P,pn,pc,rfl,hn,ky⟩:=hv.cells;obtain⟨ls,mo,at_,sl,pl,ol⟩:=h;simp only at hn ⊢;have HN:=A6 hn;have sy:=A6 jh;have dr:=A6 jh.len;have SF:=Ar jh.ncap jh.nmax;have a9:=A6 ((Aq.new w 94 (Ct A n c mo at_ S sn sc P pn pc ol)).ext (An.alloc _ (.cells Eb 94)));have al:Hid (Aq ((w.alloc (.cells (Ct A n c mo at_ S sn sc P pn pc ol) 94)).alloc (.cells Eb 94)) (w.heap.size+1) 94 Eb):=A6 (by
  have:=Aq.new (w.alloc (.cells (Ct A n c mo at_ S sn sc P pn pc ol) 94)) 94 Eb
  rwa[World.size_alloc]at this)
 have am:Hid (An w ((w.alloc (.cells (Ct A n c mo at_ S sn sc P pn pc ol) 94)).alloc (.cells Eb 94))):=A6 ((An.alloc _ _).to_alloc _);have HR:=A6 (Zk (HV.out.ext am.out));have f7:Hid (w.heap.size+2≤((w.alloc (.cells (Ct A n c mo at_ S sn sc P pn pc ol) 94)).alloc (.cells Eb 94)).heap.size):=A6 (by simp)
 unfold maxLen at ky SF;clear hv hn jh;unfold Ct Eb at*;go_enter func82,ntmps82
 go_wp2_with fail
 refine HR.out.mono ?_
 rintro e w1 ⟨x,rfl,DQ,aj⟩;have ay:=A6 (am.out.trans aj);have B3:=A6 (Aq.ext a9.out aj);have B6:=A6 (Aq.ext al.out aj);have iw:w.heap.size+2≤w1.heap.size:=Ar f7.out aj.hsize;have HK:=A6 DQ;obtain⟨k0,k1,k2,k3,k4,k5⟩:=Cu B3.out;obtain⟨d0,d1,d2,d3,d4,d5⟩:=Cu B6.out;obtain⟨f0,f1,f2,f3,f4,f5⟩:=Et B6.out;have HX:=A6 (Fo ay.out (show w.heap.size≤w.heap.size+1 by omega) (.slice none 0 0) (.int .i64 0) (.int .i64 0) (.slice none 0 0) (.slice none 0 0) (.bool false))
 have cn:=A6 (Fp B6.out (.slice none 0 0) (.int .i64 0) (.int .i64 0) (.slice none 0 0) (.slice none 0 0) (.bool false));unfold Rr at HX cn;clear HR a9 al am aj DQ f7;by_cases am:x=0
 case neg=>
  have GB:(x !=0)=true:=by simpa using am
  have du:Hid (¬AOk ⟨ls,mo,at_,sl,pl,ol⟩ line):=A6 (fun hh=>by
   rcases HK.out with⟨h1,_⟩|⟨_,h1,_⟩|⟨_,_,h1⟩
   ·exact hh.1 h1
   ·exact hh.2.1 h1
   ·exact am h1)
  have qz:=A6 am;clear am HK;go_wp2_with fail
  refine bodyPost_ret (v:=.tuple #[.agg Eb,x]) ?_ rfl ⟨HX.out,.inr ⟨du.out,x,rfl,qz.out⟩⟩
  exact I65
 case pos=>
  subst am;have HB:=A6 (HK.out.zero rfl);by_cases ju:(200:Int)<(q:Int)
  ·have du:Hid (¬AOk ⟨ls,mo,at_,sl,pl,ol⟩ line):=A6 (fun hh=>by have:=hh.2.2;have:=dr.out;omega)
   clear HK HB;go_wp2_with fail
   refine bodyPost_ret (v:=.tuple #[.agg Eb,(2:Int)]) ?_ rfl ⟨HX.out,.inr ⟨du.out,2,rfl,by omega⟩⟩
   exact I65
  ·have cb:=HB.out.1
   unfold Hi.bad at cb;simp only at cb;rw[HN.out]at cb;obtain⟨a,rfl⟩:∃a:Nat,at_=a:=⟨at_.toNat,by omega⟩
   obtain⟨room,rfl⟩:∃room:Nat,mo=room:=⟨mo.toNat,by omega⟩
   have CO:1≤room:=by omega
   have hr2:room≤50:=by omega
   have AX:n≤50:=by omega
   have p9:q≤200:=by omega
   have FN:decide ((200:Int)<(q:Int))=false:=by simp;omega
   have AA:Hid (AOk ⟨ls,(room:Int),(a:Int),sl,pl,ol⟩ line):=A6 ⟨HB.out.1,HB.out.2,by rw[dr.out];exact p9⟩
   have HC:=A6 (Xp (HV.out.ext ay.out) (by simp only;rw[HN.out];omega))
   clear cb HK HB ju HX cn d0 d1 d2 d3 d4 d5 f0 f1 f2 f3 f4 f5;go_wp2_with fail
   refine HC.out.mono ?_
   rintro e w2 ⟨u,rfl,hO,au⟩;obtain⟨O,n',d,S',bp,bq,P',bc,pc',rfl,ue,AT,AU⟩:=hO;unfold Ct;simp only at ue AU ⊢;obtain rfl:n'=n:=by rw[←ue.lns.len];exact HN.out
   have im:=A6 (ay.out.trans au);have B62:=A6 (Aq.ext B6.out au);have iu:w.heap.size+2≤w2.heap.size:=Ar iw au.hsize;have zn:=A6 (ue.lower (show w.heap.size+2≤w1.heap.size from iw))
   have vg:=A6 (AU.lower (show w.heap.size+2≤w1.heap.size from iw))
   have B32:=A6 (Aq.ext B3.out au);clear HC ue AT AU au k0 k1 k2 k3 k4 k5 B3 B6 ay HV;go_upto_region 7 with fail
   have b7:=A6 (Aq.new w2 94 #[.slice O n' d,.int .i64 (room:Int),.int .i64 (a:Int),.slice S' bp bq,.slice P' bc pc',.bool ol]);have jd:=A6 (An.alloc w2 (.cells #[.slice O n' d,room,a,.slice S' bp bq,.slice P' bc pc',ol] 94));have GU:Hid ((w2.alloc (.cells #[.slice O n' d,room,a,.slice S' bp bq,.slice P' bc pc',ol] 94)).heap.size=w2.heap.size+1):=A6 (by simp)
   change Code.wp _ _ _ _ (w2.alloc (.cells #[.slice O n' d,room,a,.slice S' bp bq,.slice P' bc pc',ol] 94));generalize w2.alloc (.cells #[.slice O n' d,room,a,.slice S' bp bq,.slice P' bc pc',ol] 94)=W at*;have rk:Hid (Mx W (w.heap.size+2) [w2.heap.size,W.heap.size,W.heap.size+1] O n' d ls):=A6 ((zn.out.apart (fun k h1 h2 hm=>by have:=GU.out;simp at hm;omega)).ext jd.out)
   have GV:=A6 (vg.out.ext jd.out);have JV:Hid (∀k,(Ak P' bc pc').ownBlock=some k→k∉[w2.heap.size,W.heap.size,W.heap.size+1]):=A6 (fun k hk hm=>by have:=(vg.out.blk k hk).2;have:=GU.out;simp at hm;omega)
   have px:=A6 (Aq.ext B62.out jd.out);have WK:=A6 (im.out.trans jd.out);have B3W:=A6 (Aq.ext B32.out jd.out);have hg7:w2.heap.size<W.heap.size:=by have:=GU.out;omega
   clear zn vg B62 im jd B32;generalize w2.heap.size=g7 at*;go_upto_if 25 with fail
   go_cut [] (fun wx=>∃(O4:Option Addr) (n4 c4:Nat),Hid (Aq wx g7 94 #[.slice O4 n4 c4,.int .i64 (room:Int),.int .i64 (a:Int),.slice S' bp bq,.slice P' bc pc',.bool ol])∧Hid (Mx wx (w.heap.size+2) [g7] O4 n4 c4 (Nd ⟨ls,(room:Int),(a:Int),sl,pl,ol⟩ line))∧Hid (Bl wx (w.heap.size+2) (.slice P' bc pc') pl)∧Hid (Aq wx (w.heap.size+1) 94 #[.slice none 0 0,.int .i64 0,.int .i64 0,.slice none 0 0,.slice none 0 0,.bool false])∧Hid (An w wx)∧n4≤1000∧g7<wx.heap.size)
   case first=>
    cases hb:decide (0<q)
    ·have WL:Hid (Nd ⟨ls,(room:Int),(a:Int),sl,pl,ol⟩ line=ls):=A6 (by unfold Nd;rw[if_pos (by rw[dr.out];simp at hb;omega)])
     clear hb;go_wp2_with fail
     go_meet
     exact⟨O,n',d,b7,A6 (by rw[WL.out];exact rk.out.fewer (fun k hk=>by simp at hk;simp[hk])),GV,px,WK,by omega,hg7⟩
    ·have hq0:0<q:=by simp at hb;omega
     have WL:Hid (Nd ⟨ls,(room:Int),(a:Int),sl,pl,ol⟩ line=kD room (ls++[line])):=A6 (by unfold Nd;rw[if_neg (by rw[dr.out];omega)];rfl)
     have nk:=A6 (RS.ringNew_ok (room:Int) room (.inr (.inl ⟨by omega,by omega,rfl⟩)) W)
     obtain⟨_,c31,_⟩:=Cu B3W.out;clear hb;go_wp2_with fail
     refine nk.out.mono ?_
     rintro e w4 ⟨rfl,hR,ik⟩;have HR4:=A6 hR;have NQ:=A6 (rk.out.ext ik);obtain⟨xs,s9,db,_,fd,vl⟩:=NQ.out;have o3:=A6 s9;have np:=A6 db;have ow:=A6 fd;have GW:=A6 vl;have jy:=A6 (WK.out.trans ik);have b74:=A6 (Aq.ext b7.out ik);have B64:=A6 (Aq.ext px.out ik);have NR:=A6 (GV.out.ext ik);have vn:W.heap.size+1<w4.heap.size:=hR.1.lt;have HC:=A6 (Dj (sy.out.ext (jy.out.trans (An.drew w4))) hN (by omega))
     obtain⟨a0,_⟩:=Cu b74.out;have a1:w4.drew.cell? ⟨g7,0,none⟩=some (.slice O n' d):=a0;clear nk hR ik s9 db fd vl NQ rk WK b7 px GV c31 a0 B3W;go_upto_region 9 with fail
     go_region_law (first
      |(
       refine Kh rfl 35 #[.slice N q y] (by kernel_rfl) (fun v w'=>∃B2 d2,v=.slice B2 q d2∧Ba w' w4.drew.heap.size B2 q d2 line∧(B2=none→d2=0)∧An w4.drew w') (HC.out.mono fun e w' ⟨B2,d2,h1,h2⟩=>⟨_,h1,B2,d2,rfl,h2⟩) ?_
       rintro v w5 ⟨B2,q2,rfl,le,aw,kd⟩;have b1:=kd.cell a1;have b2:(w5.alloc (.cells #[.slice B2 q q2] 25)).cell? ⟨g7,0,none⟩=some (.slice O n' d):=An.cell (An.alloc _ _) b1)
      |(
       refine Pz rfl (.tmp 30) (.tmp 33) 39 rfl w (w.heap.size+2) 25 i0 _ 1 24 underlying39 HI.out bm bz az rfl (by decide) O n' d xs rfl (Bd.ext o3.out ((An.drew w4).trans kd)) #[.slice B2 q q2] rfl (by simp[Value.oneCell']) rfl (by unfold maxLen;omega) (by omega) (jy.out.trans ((An.drew w4).trans kd)) (by omega) (Ar (show w.heap.size+2≤w4.heap.size by omega) ((An.drew w4).trans kd).hsize) ?_
       intro O3 d3 w6 cv av cf bg))
     all_goals
      have ft:=(An.drew w4).trans kd;have mu:w4.heap.size≤w5.heap.size:=ft.hsize;have xv:Bl w5 (w.heap.size+2) (.slice B2 q q2) line:=⟨B2,q,q2,rfl,Bd.lower le (show w.heap.size+2≤w4.heap.size by omega),aw,by omega⟩
      have nz:∀k,(Ak B2 q q2).ownBlock=some k→w4.heap.size≤k∧k∉[g7,W.heap.size,W.heap.size+1]:=fun k hk=>by
       have h1:w4.heap.size≤k:=(Bd.blk le k hk).1;exact⟨h1,fun hm=>by simp at hm;omega⟩
      have jp:=A6 (uQ o3.out np.out ow.out GW.out (fun k hk=>by simp at hk;omega) ft xv nz cv av cf)
      have WM:=A6 (Ue.grown (N:=(Ak O n' d).ownBlock.toList) av (fun k hk=>by rw[hk];simp))
      have o5:=A6 ((HR4.out.ext ft).grown av (fun e=>ow.out _ e.symm (by simp)) (fun e=>ow.out _ e.symm (by simp)))
      have B76:=A6 (Aq.grown (Aq.ext b74.out ft) av (fun e=>ow.out _ e.symm (by simp)))
      have B66:=A6 (Aq.grown (Aq.ext B64.out ft) av (fun e=>by have:=(Bd.blk o3.out _ e.symm).1;omega))
      have HP6:Hid (Bl w6 (w.heap.size+2) (.slice P' bc pc') pl):=A6 (by
       obtain⟨P1,p1,p2,hh,k1,k2⟩:=NR.out.ext ft;injection hh with e1 e2 e3;subst e1;subst e2;subst e3;refine⟨P',bc,pc',rfl,Bd.kept k1 av ?_,k2⟩
       cases hb:(Ak P' bc pc').ownBlock with
       |none=>exact .inl rfl
       |some g=>exact .inr (fun e=>Bd.unlike k1 (Bd.ext o3.out ft) (by decide) g hb e.symm))
      have dv:=A6 bg;obtain⟨xs6,GX,GY,_,NS,NT⟩:=jp.out;obtain⟨lv,DN⟩:=J3d GY.lnv;have xw:Hid (lv.length=n'+1):=A6 (by have:=GX.len;rw[←DN]at this;simpa using this)
      have HLV:=A6 DN;have WN:=A6 GX;have WO:=A6 GY;have WP:=A6 NS;have NU:=A6 NT;have HH6:Hid (RS.Held w6 (W.heap.size+1) W.heap.size room lv 0):=A6 ⟨0,_,by simpa using o5.out,RS.slots_start _ _ (by simp),fun _=>by simp⟩
      have SE:W.heap.size+1<w6.heap.size:=o5.out.1.lt;have WQ:w.heap.size+2≤w6.heap.size:=by omega
      clear HC a1 b1 b2 le aw kd cv av cf bg ft xv nz HR4 o3 np ow GW jy b74 B64 NR o5 WM GX GY NS NT DN mu jp;go_simp
      go_wp2_with fail
      go_loopw [36] (fun s36 wr=>∃j:Nat,s36=.int .i64 (j:Int)∧j≤n'+1∧Hid (RS.Held wr (W.heap.size+1) W.heap.size room lv j)∧Hid (Ue [W.heap.size,W.heap.size+1] w6 wr)∧Hid (An w wr)) (fun s36 _=>n'+1-(intOf s36).toNat)
      case atStart=>exact⟨0,rfl,by omega,HH6,A6 (Ue.refl _ _),dv⟩
      case round=>
       obtain⟨j,rfl,hj,SG,BN,zy⟩:=hrel;have GZ:=Bd.eqv WN.out BN.out (fun k hk hm=>WP.out k hk (by simp at hm;simp;omega))
       by_cases ae:j<n'+1
       ·obtain⟨ad,rfl,hc⟩:=(Bd.rd GZ).at_ ae
        have hcj:wr.cell? (ad.add j)=some (.slice (RS.gS lv j).a (RS.gS lv j).n (RS.gS lv j).c):=hc j _ (by
         rw[←HLV.out];have h1:j<lv.length:=by rw[xw.out];exact ae
         simp[RS.gS,RS.Sl.v,h1])
        have HPu:=A6 (RS.push_held SG.out (by omega))
        clear hc GZ;go_wp2_with fail
        refine HPu.out.mono ?_
        rintro e w7 ⟨rfl,hH7,hP7⟩;have WR:Ue [W.heap.size,W.heap.size+1] wr w7∧An w w7:=by
         rcases hP7 with rfl|hP
         ·exact⟨Ue.refl _ _,zy.out⟩
         ·refine⟨?_,hP.ext zy.out (by omega) (by omega)⟩
          obtain⟨x,p,i,u,rfl⟩:=hP;exact((Ue.setCell wr _ _ (by simp)).trans ((An.drew _).eqv _)).trans (Ue.setCell _ _ _ (by simp))
        have H1:=A6 hH7;have H2:=A6 (BN.out.trans WR.1);have H3:=A6 WR.2;clear HPu hH7 hP7 WR SG BN zy hcj;go_wp2_with fail
        go_roundw
        case rel=>exact⟨j+1,by go_num,by omega,H1,H2,H3⟩
        case measure=>simp[intOf];omega
       ·obtain rfl:j=n'+1:=by omega
        have hzr:w6.heap.size≤wr.heap.size:=BN.out.1;have DR:=A6 (WO.out.eqv BN.out (fun i v hv k hk hm=>NU.out i v hv k hk (by simp at hm;simp;omega)))
        have B7r:=A6 (Aq.eqv B76.out BN.out (fun hm=>by simp at hm;omega))
        have B6r:=A6 (Aq.eqv B66.out BN.out (fun hm=>by simp at hm;omega))
        have HPr:=A6 (Bl.eqv HP6.out BN.out (fun k hk hm=>JV.out k hk (by simp at hm;simp;omega)))
        obtain⟨f,ss,hRA,ul,WS⟩:=SG.out;have NV:f<room:=by rw[WS (by omega)];exact Nat.mod_lt _ (by omega)
        have FU:=A6 (RS.ringList_ok hRA ul.1 (Nat.min_le_right _ _) (.inl NV) (by omega))
        have SH:Hid (RS.ringL ss room f (min (n'+1) room)=lv.drop (lv.length-min lv.length room)):=A6 (by
         have h1:RS.slotsOk lv ss room lv.length:=by rw[xw.out];exact ul
         have h2:0<room→f=(lv.length-min lv.length room)%room:=by rw[xw.out];exact WS
         have:=RS.held_list h1 h2;rw[xw.out]at this ⊢;exact this)
        clear hRA ul WS NV SG BN ae GZ;go_wp2_with fail
        refine FU.out.mono ?_
        rintro e w8 ⟨A8,c8,rfl,WT,rm⟩;rw[SH.out]at WT;have SI:=A6 (uR (M:=[g7]) DR.out NU.out HLV.out rm WT rfl (by omega) (fun k hk=>by simp at hk;subst hk;exact⟨by simp,by omega⟩))
        have B78:=A6 (Aq.ext B7r.out rm);have B68:=A6 (Aq.ext B6r.out rm);have HP8:=A6 (HPr.out.ext rm);have vy:=A6 (zy.out.trans rm);have SJ:=Ue.setCell (N:=[g7]) w8 ⟨g7,0,none⟩ (.slice A8 (min (n'+1) room) c8) (by simp)
        have R1:=A6 (B78.out.set_ 0 (.slice A8 (min (n'+1) room) c8));have R2:Hid (Mx (w8.setCell ⟨g7,0,none⟩ (.slice A8 (min (n'+1) room) c8)) (w.heap.size+2) [g7] A8 (min (n'+1) room) c8 (Nd ⟨ls,(room:Int),(a:Int),sl,pl,ol⟩ line)):=A6 (by
         rw[WL.out];have h1:(ls++[line]).length=lv.length:=by rw[xw.out];simp[HN.out]
         unfold kD;rw[h1];exact SI.out.eqv SJ)
        have R3:=A6 (HP8.out.eqv SJ (fun k hk hm=>JV.out k hk (by simp at hm;simp[hm])))
        have R4:=A6 (Aq.eqv B68.out SJ (fun hm=>by simp at hm;omega))
        have R5:=A6 (vy.out.setCell (p:=⟨g7,0,none⟩) (show w.heap.size≤g7 by omega) (.slice A8 (min (n'+1) room) c8))
        have R7:g7<(w8.setCell ⟨g7,0,none⟩ (.slice A8 (min (n'+1) room) c8)).heap.size:=R1.out.lt;have rn:min (n'+1) room≤1000:=by omega
        obtain⟨c70,_⟩:=Cu B78.out;have f70:=B78.out.frozen 0;clear FU WT rm SI B78 B68 HP8 vy SJ DR B7r B6r HPr zy SH hzr;go_wp2_with fail
        go_meet
        exact⟨A8,_,c8,R1,R2,R3,R4,R5,rn,R7⟩
   case rest=>
    obtain⟨O4,n4,c4,SK,JW,HP4,px,jy,hn4,jj⟩:=hcut;have NW:Hid ((Nd ⟨ls,(room:Int),(a:Int),sl,pl,ol⟩ line).length=n4):=A6 JW.out.o.lns.len;obtain⟨c0,c1,c2,c3,c4',c5⟩:=Cu SK.out;obtain⟨f0,f1,f2,f3,f4,f5⟩:=Et SK.out;have hE:=(Ue.setCell (N:=[g7]) wc ⟨g7,2,none⟩ (.int .i64 (n4:Int)) (by simp)).trans (Ue.setCell (N:=[g7]) (wc.setCell ⟨g7,2,none⟩ (.int .i64 (n4:Int))) ⟨g7,3,none⟩ (.slice none 0 0) (by simp))
    have R1:=A6 ((SK.out.set_ 2 (.int .i64 (n4:Int))).set_ 3 (.slice none 0 0));have R2:=A6 (JW.out.eqv hE);have R3:=A6 (HP4.out.eqv hE (fun k hk hm=>JV.out k hk (by simp at hm;simp[hm])))
    have R4:=A6 (Aq.eqv px.out hE (fun hm=>by simp at hm;omega))
    have R5:=A6 ((jy.out.setCell (p:=⟨g7,2,none⟩) (show w.heap.size≤g7 by omega) (.int .i64 (n4:Int))).setCell (p:=⟨g7,3,none⟩) (show w.heap.size≤g7 by omega) (.slice none 0 0))
    clear hE JW HP4 jy;go_upto_region 16 with fail
    clear SK px c0 c1 c2 c3 c4' c5 f0 f1 f2 f3 f4 f5;generalize (wc.setCell ⟨g7,2,none⟩ (.int .i64 (n4:Int))).setCell ⟨g7,3,none⟩ (.slice none 0 0)=W9 at*;have R1':Hid (Aq W9 g7 94 #[.slice O4 n4 c4,.int .i64 (room:Int),.int .i64 (n4:Int),.slice none 0 0,.slice P' bc pc',.bool ol]):=A6 R1.out;obtain⟨c0,c1,c2,c3,c4',c5⟩:=Cu R1'.out;obtain⟨d0,d1,d2,d3,d4,d5⟩:=Cu R4.out;obtain⟨f0,f1,f2,f3,f4,f5⟩:=Et R4.out;have cd:w.heap.size+1<w.heap.size+2:=by omega
    have qy:Hid (Dp W9 (w.heap.size+2) (.agg (Ct O4 n4 c4 (room:Int) (n4:Int) none 0 0 P' bc pc' ol)) (rD ⟨ls,(room:Int),(a:Int),sl,pl,ol⟩ line)):=A6 (by
     refine⟨O4,n4,c4,none,0,0,P',bc,pc',?_,R2.out.o,Bl.nil _ _,R3.out⟩
     unfold rD;simp only;rw[NW.out])
    have io:=A6 (J2 qy.out cd (.slice O4 n4 c4) (.int .i64 (room:Int)) (.int .i64 (n4:Int)) (.slice none 0 0) (.slice P' bc pc') (.bool ol));have dv:=A6 (Fo R5.out (show w.heap.size≤w.heap.size+1 by omega) (.slice O4 n4 c4) (.int .i64 (room:Int)) (.int .i64 (n4:Int)) (.slice none 0 0) (.slice P' bc pc') (.bool ol))
    have kc:=A6 (Fp R4.out (.slice O4 n4 c4) (.int .i64 (room:Int)) (.int .i64 (n4:Int)) (.slice none 0 0) (.slice P' bc pc') (.bool ol));unfold Rr at io dv kc;clear R1 R2 R3 R4 R5 R1' qy;go_wp2_with fail
    refine bodyPost_ret (v:=.tuple #[.agg (Ct O4 n4 c4 (room:Int) (n4:Int) none 0 0 P' bc pc' ol),(0:Int)]) ?_ rfl ⟨dv.out,.inl ⟨AA.out,_,rfl,io.out.lower (by omega)⟩⟩
    exact Hj rfl _ _ (w.heap.size+1) 94 _ _ _ _ rfl rfl kc.out underlying94 rfl (Fm rfl)
open Classical
def rG:Hi:=⟨[],0,0,[],[],false⟩
theorem sJ (w:World)(b:Nat):Dp w b (.agg Eb) rG:=
 ⟨none,0,0,none,0,0,none,0,0,rfl,⟨[],Bd.nil _ _ _ _,⟨rfl,fun i hi=>absurd hi (by simp[rG])⟩,fun _=>rfl⟩,⟨none,0,0,rfl,Ba.nil _ _,fun _=>rfl,by omega⟩,⟨none,0,0,rfl,Ba.nil _ _,fun _=>rfl,by omega⟩⟩
noncomputable def Pi (h:Hi)(line:List Int):Hi:=if AOk h line then rD h line else rG
theorem J6p {h:Hi}{q y:Nat}(hv:My w v h)(jh:Bj w N q y line)(hN:N=none→y=0):
 Calls prog 82 #[v,.slice N q y] w fun e w'=>∃u x,e=.returned (.tuple #[u,.int .i64 x])∧Dp w' w.heap.size u (Pi h line)∧An w w':=by
 refine(J5i hv jh hN).mono ?_
 rintro e w' ⟨he,⟨cw,u,rfl,ho⟩|⟨cw,x,rfl,_⟩⟩
 ·exact⟨u,0,rfl,by unfold Pi;rw[if_pos cw];exact ho,he⟩
 ·exact⟨_,x,rfl,by unfold Pi;rw[if_neg cw];exact sJ _ _,he⟩
end
