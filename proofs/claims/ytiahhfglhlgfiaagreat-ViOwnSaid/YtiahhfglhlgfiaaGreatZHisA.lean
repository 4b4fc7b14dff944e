/-
  Part ZHisA.
-/
import Derived.Test.YtiahhfglhlgfiaaGreatZRegQ
import Derived.Test.YtiahhfglhlgfiaaGreatZRinsL
import Derived.Deep.CutRange
set_option maxRecDepth 100000
set_option maxHeartbeats 16000000
set_option linter.unusedVariables false
set_option linter.unusedSimpArgs false
namespace Go.Proofs.YtiahhfglhlgfiaaGreat
open Go.RowKit
open _root_.List renaming length_drop→Ct
open Value renaming slice→Aj
open _root_.Nat renaming le_trans→Ap
section
variable {xs:List Value}{ls:List (List Int)}{N:Option Addr}{line:List Int}{v:Value}{w:World}
def dX {α:Type}(m:Nat)(l:List α):List α:=l.drop (l.length-min l.length m)
def Lb (h:Hi)(line:List Int):List (List Int):=if line.length=0 then h.lines else dX h.most.toNat (h.lines++[line])
def kJ (h:Hi)(line:List Int):Hi:=⟨Lb h line,h.most,(Lb h line).length,[],h.pattern,h.older⟩
def wU (h:Hi)(line:List Int):Prop:=¬h.bad∧¬h.long∧line.length≤200
def yU (h:Hi)(line:List Int)(w:World)(e:Ending)(w':World):Prop:=
 Al w w'∧((wU h line∧∃u,e=.returned (.tuple #[u,.int .i64 0])∧D3 w' w.heap.size u (kJ h line))∨
  (¬wU h line∧∃x:Int,e=.returned (.tuple #[.agg Dj,.int .i64 x])∧x≠0))
theorem J6 {P:Program}{fn:Func}{p q:Tmp}{ty:TypeId}(h:fn.results=#[.cell p ty,.tmp q])(tmps:Array Value)(w:World)(g:Nat)(t:TypeId)(cs:Array Value)(fr:Nat×Nat)(d:TypeDesc)(v:Value)
 (hp:tmps.getD p undef=.pointer (some ⟨g,0,none⟩)) (hq:tmps.getD q undef=v) (hg:w.heap[g]? = some (.cells cs t fr))
 (hu:P.underlying ty=some d) (hd:(match d with|.struct _|.array _ _=>true|_=>false)=true) (hi:(P.info? ty).map (·.size)=some cs.size):
 (results fn tmps).run P w=.ok (.tuple #[.agg cs,v]) w:=by
 have hp':tmps[p]?.getD undef=.pointer (some ⟨g,0,none⟩):=by simpa using hp
 exact I38
theorem nE {w w2 w3:World}{b k d d3:Nat}{N:List Nat}{O O3:Option Addr}{l:List Int}(h1:Ay w b 27 1 O k d xs)(h2:Rp w b (Aj O k d).ownBlock xs ls)
 (h4:∀k',(Aj O k d).ownBlock=some k'→k'∉N) (h5:∀(i:Nat) v,xs[i]? = some v→∀k,v.ownBlock=some k→k∉N) (hN:∀k,k∈N→k<w2.heap.size) (he:Al w w2)
 (hv:Bg w2 b v l) (hvb:∀g,v.ownBlock=some g→w.heap.size≤g∧g∉N) (hO3:Ay w3 b 27 1 O3 (k+1) d3 (xs++[v])) (hgr:w2.grownBy w3 (Aj O k d).ownBlock)
 (hor:(Aj O3 (k+1) d3).ownBlock=(Aj O k d).ownBlock∨∃g,w2.heap.size≤g∧(Aj O3 (k+1) d3).ownBlock=some g):L7 w3 b N O3 (k+1) d3 (ls++[l]):=by
 have hOb:∀g,(Aj O k d).ownBlock=some g→g<w.heap.size:=fun g hg=>(Ay.blk h1 g hg).2
 have hrow:v.ownBlock=none∨v.ownBlock≠(Aj O k d).ownBlock:=by
  cases hb:v.ownBlock with
  |none=>exact .inl rfl
  |some g=>exact .inr (fun e=>by have h1:=(hvb g hb).1;have h2:=hOb g e.symm;omega)
 have hrow':v.ownBlock=none∨v.ownBlock≠(Aj O3 (k+1) d3).ownBlock:=by
  cases hb:v.ownBlock with
  |none=>exact .inl rfl
  |some g=>exact .inr (fun e=>by
   rcases hor with h2|⟨g',h2,h3⟩
   ·rw[h2]at e;have:=hOb g e.symm;have:=(hvb g hb).1;omega
   ·rw[h3]at e;injection e with e;have:=(hv.blk g hb).2;omega)
 have hnew:Bg w3 b v l:=by
  obtain⟨A,n,c,rfl,k1,k2⟩:=hv;exact⟨A,n,c,rfl,Ay.kept k1 hgr hrow,k2⟩
 refine⟨xs++[v],hO3,((h2.ext he).grown hgr hor).snoc hnew hrow',Ay.nocap' hO3,fun k' hk' hn=>?_,fun i u hu k' hk'=>?_⟩
 ·rcases hor with h|⟨g,hg,h⟩
  ·rw[h]at hk';exact h4 k' hk' hn
  ·rw[h]at hk';injection hk' with hk';have:=hN k' hn;omega
 ·rcases Nat.lt_or_ge i xs.length with hi|hi
  ·rw[List.getElem?_append_left hi]at hu
   exact h5 i u hu k' hk'
  ·rw[List.getElem?_append_right hi]at hu
   have:i-xs.length=0:=by
    have:=(List.getElem?_eq_some_iff.1 hu).1;simp at this;omega
   rw[this]at hu;simp at hu;subst hu;exact(hvb k' hk').2
theorem uH (h:aL w xs ls):∃lv:List RS.Sl,lv.map RS.Sl.v=xs:=by
 have:∀xs:List Value,(∀v∈xs,∃s:RS.Sl,s.v=v)→∃lv:List RS.Sl,lv.map RS.Sl.v=xs:=by
  intro xs
  induction xs with
  |nil=>exact fun _=>⟨[],rfl⟩
  |cons v xs ih=>
   intro hh;obtain⟨s,hs⟩:=hh v List.mem_cons_self;obtain⟨lv,hlv⟩:=ih (fun u hu=>hh u (List.mem_cons_of_mem _ hu))
   exact⟨s::lv,by simp[hs,hlv]⟩
 refine this xs fun v hv=>?_
 obtain⟨i,hi,rfl⟩:=List.mem_iff_getElem.1 hv;obtain⟨v,h1,A,n,c,rfl,_⟩:=h.2 i (by rw[←h.1];exact hi)
 rw[List.getElem?_eq_getElem hi]at h1;injection h1 with h1;exact⟨⟨A,n,c⟩,h1.symm⟩
theorem nF {wr w8:World}{b z8 c8 d:Nat}{O3 A8:Option Addr}{n3 d3 base:Nat}{N M:List Nat}{lv:List RS.Sl}{L:List (List Int)}(h1:Rp wr b (Aj O3 n3 d3).ownBlock xs L)(h5:∀(i:Nat) v,xs[i]? = some v→∀k,v.ownBlock=some k→k∉N)
 (hlv:lv.map RS.Sl.v=xs) (he:Al wr w8) (hO:RS.OwnS w8 base A8 z8 c8 (lv.drop d)) (hbs:base=wr.heap.size) (hbb:b≤base) (hMN:∀k,k∈M→k∈N∧k<wr.heap.size):L7 w8 b M A8 z8 c8 (L.drop d):=by
 subst hbs;have hrow:∀k,(Aj A8 z8 c8).ownBlock=some k→wr.heap.size≤k:=fun k hk=>(Ay.blk hO k hk).1
 have hget:∀i,((lv.drop d).map RS.Sl.v)[i]? = xs[d+i]? := fun i=>by rw[List.map_drop,hlv,List.getElem?_drop]
 have hgl:∀i,gL (L.drop d) i=gL L (d+i):=fun i=>by unfold gL;rw[List.getElem?_drop]
 refine⟨(lv.drop d).map RS.Sl.v,Ay.lower hO hbb,⟨?_,fun i hi=>?_⟩,Ay.nocap' hO,fun k hk hn=>?_,fun i v hv k hk hn=>?_⟩
 ·rw[List.map_drop,hlv,Ct,Ct,h1.1]
 ·rw[Ct]at hi
  obtain⟨v,k1,k2,_⟩:=h1.2 (d+i) (by omega)
  refine⟨v,by rw[hget];exact k1,by rw[hgl];exact k2.ext he,?_⟩
  cases hb:v.ownBlock with
  |none=>exact .inl rfl
  |some g=>exact .inr (fun e=>by have:=(k2.blk g hb).2;have:=hrow g e.symm;omega)
 ·have:=hrow k hk
  have:=(hMN k hn).2;omega
 ·rw[hget]at hv
  exact h5 _ v hv k hk (hMN k hn).1
theorem wL {h:Hi}{q y:Nat}(hv:L8 w v h)(hln:Bi w N q y line)(hN:N=none→y=0):
 Calls Tryz.prog 45 #[v,.slice N q y] w (yU h line w):=by
 obtain⟨i0,hi,hz0,hz1,hz2⟩:=info_parts Lp;have HI:=A4 hi;clear hi;have HV:=A4 hv;obtain⟨A,n,c,S,sn,sc,P,pn,pc,rfl,hn,hnm⟩:=hv.cells;obtain⟨ls,mo,at_,sl,pl,ol⟩:=h;simp only at hn ⊢;have HN:=A4 hn;have HLn:=A4 hln;have hql:=A4 hln.len;have hqm:=Ap hln.ncap hln.nmax;have hb0:=A4 ((An.new w 54 (Ce A n c mo at_ S sn sc P pn pc ol)).ext (Al.alloc _ (.cells Dj 54)));have hb1:Hid (An ((w.alloc (.cells (Ce A n c mo at_ S sn sc P pn pc ol) 54)).alloc (.cells Dj 54)) (w.heap.size+1) 54 Dj):=A4 (by
  have:=An.new (w.alloc (.cells (Ce A n c mo at_ S sn sc P pn pc ol) 54)) 54 Dj
  rwa[World.size_alloc]at this)
 have hx0:Hid (Al w ((w.alloc (.cells (Ce A n c mo at_ S sn sc P pn pc ol) 54)).alloc (.cells Dj 54))):=A4 ((Al.alloc _ _).to_alloc _);have HR:=A4 (Vy (HV.out.ext hx0.out));have hsz0:Hid (w.heap.size+2≤((w.alloc (.cells (Ce A n c mo at_ S sn sc P pn pc ol) 54)).alloc (.cells Dj 54)).heap.size):=A4 (by simp)
 unfold maxLen at hnm hqm;clear hv hn hln;unfold Ce Dj at*;go_enter Tryz.func45,Tryz.ntmps45
 go_wp2_with fail
 refine HR.out.mono ?_
 rintro e w1 ⟨x,rfl,hck,he1⟩;have hx1:=A4 (hx0.out.trans he1);have B3:=A4 (An.ext hb0.out he1);have B6:=A4 (An.ext hb1.out he1);have hsz1:w.heap.size+2≤w1.heap.size:=Ap hsz0.out he1.hsize;have HK:=A4 hck;obtain⟨k0,k1,k2,k3,k4,k5⟩:=Cg B3.out;obtain⟨d0,d1,d2,d3,d4,d5⟩:=Cg B6.out;obtain⟨f0,f1,f2,f3,f4,f5⟩:=Du B6.out;have HX:=A4 (Em hx1.out (show w.heap.size≤w.heap.size+1 by omega) (.slice none 0 0) (.int .i64 0) (.int .i64 0) (.slice none 0 0) (.slice none 0 0) (.bool false))
 have hfin:=A4 (En B6.out (.slice none 0 0) (.int .i64 0) (.int .i64 0) (.slice none 0 0) (.slice none 0 0) (.bool false));unfold Pg at HX hfin;clear HR hb0 hb1 hx0 he1 hck hsz0;by_cases hx0:x=0
 case neg=>
  have hxb:(x !=0)=true:=by simpa using hx0
  have hno:Hid (¬wU ⟨ls,mo,at_,sl,pl,ol⟩ line):=A4 (fun hh=>by
   rcases HK.out with⟨h1,_⟩|⟨_,h1,_⟩|⟨_,_,h1⟩
   ·exact hh.1 h1
   ·exact hh.2.1 h1
   ·exact hx0 h1)
  have hx0':=A4 hx0;clear hx0 HK;go_wp2_with fail
  refine bodyPost_ret (v:=.tuple #[.agg Dj,.int .i64 x]) ?_ rfl ⟨HX.out,.inr ⟨hno.out,x,rfl,hx0'.out⟩⟩
  exact I61
 case pos=>
  subst hx0;have HB:=A4 (HK.out.zero rfl);by_cases ht2:(200:Int)<(q:Int)
  ·have hno:Hid (¬wU ⟨ls,mo,at_,sl,pl,ol⟩ line):=A4 (fun hh=>by have:=hh.2.2;have:=hql.out;omega)
   clear HK HB;go_wp2_with fail
   refine bodyPost_ret (v:=.tuple #[.agg Dj,.int .i64 2]) ?_ rfl ⟨HX.out,.inr ⟨hno.out,2,rfl,by omega⟩⟩
   exact I61
  ·have hg1:=HB.out.1
   unfold Hi.bad at hg1;simp only at hg1;rw[HN.out]at hg1;obtain⟨a,rfl⟩:∃a:Nat,at_=a:=⟨at_.toNat,by omega⟩
   obtain⟨room,rfl⟩:∃room:Nat,mo=room:=⟨mo.toNat,by omega⟩
   have hr1:1≤room:=by omega
   have hr2:room≤50:=by omega
   have hn50:n≤50:=by omega
   have ht4:q≤200:=by omega
   have ht5:decide ((200:Int)<(q:Int))=false:=by simp;omega
   have HOK:Hid (wU ⟨ls,(room:Int),(a:Int),sl,pl,ol⟩ line):=A4 ⟨HB.out.1,HB.out.2,by rw[hql.out];exact ht4⟩
   have HC:=A4 (Ug (HV.out.ext hx1.out) (by simp only;rw[HN.out];omega))
   clear hg1 HK HB ht2 HX hfin d0 d1 d2 d3 d4 d5 f0 f1 f2 f3 f4 f5;go_wp2_with fail
   refine HC.out.mono ?_
   rintro e w2 ⟨u,rfl,hO,he2⟩;obtain⟨O,n',d,S',sn',sc',P',pn',pc',rfl,hOL,hOS,hOP⟩:=hO;unfold Ce;simp only at hOL hOP ⊢;obtain rfl:n'=n:=by rw[←hOL.lns.len];exact HN.out
   have HX2:=A4 (hx1.out.trans he2);have B62:=A4 (An.ext B6.out he2);have hsz2:w.heap.size+2≤w2.heap.size:=Ap hsz1 he2.hsize;have HOL:=A4 (hOL.lower (show w.heap.size+2≤w1.heap.size from hsz1))
   have HOP:=A4 (hOP.lower (show w.heap.size+2≤w1.heap.size from hsz1))
   have B32:=A4 (An.ext B3.out he2);clear HC hOL hOS hOP he2 k0 k1 k2 k3 k4 k5 B3 B6 hx1 HV;go_upto_region 7 with fail
   have b7:=A4 (An.new w2 54 #[.slice O n' d,.int .i64 (room:Int),.int .i64 (a:Int),.slice S' sn' sc',.slice P' pn' pc',.bool ol]);have hxa:=A4 (Al.alloc w2 (.cells #[.slice O n' d,.int .i64 (room:Int),.int .i64 (a:Int),.slice S' sn' sc',.slice P' pn' pc',.bool ol] 54));have hszW:Hid ((w2.alloc (.cells #[.slice O n' d,.int .i64 (room:Int),.int .i64 (a:Int),.slice S' sn' sc',.slice P' pn' pc',.bool ol] 54)).heap.size=w2.heap.size+1):=A4 (by simp)
   change Code.wp _ _ _ _ (w2.alloc (.cells #[.slice O n' d,.int .i64 (room:Int),.int .i64 (a:Int),.slice S' sn' sc',.slice P' pn' pc',.bool ol] 54));generalize w2.alloc (.cells #[.slice O n' d,.int .i64 (room:Int),.int .i64 (a:Int),.slice S' sn' sc',.slice P' pn' pc',.bool ol] 54)=W at*;have HON:Hid (L7 W (w.heap.size+2) [w2.heap.size,W.heap.size,W.heap.size+1] O n' d ls):=A4 ((HOL.out.apart (fun k h1 h2 hm=>by have:=hszW.out;simp at hm;omega)).ext hxa.out)
   have HOPW:=A4 (HOP.out.ext hxa.out);have HPb:Hid (∀k,(Aj P' pn' pc').ownBlock=some k→k∉[w2.heap.size,W.heap.size,W.heap.size+1]):=A4 (fun k hk hm=>by have:=(HOP.out.blk k hk).2;have:=hszW.out;simp at hm;omega)
   have HB6:=A4 (An.ext B62.out hxa.out);have HXW:=A4 (HX2.out.trans hxa.out);have B3W:=A4 (An.ext B32.out hxa.out);have hg7:w2.heap.size<W.heap.size:=by have:=hszW.out;omega
   clear HOL HOP B62 HX2 hxa B32;generalize w2.heap.size=g7 at*;go_upto_if 25 with fail
   go_cut [] (fun wx=>∃(O4:Option Addr) (n4 c4:Nat),Hid (An wx g7 54 #[.slice O4 n4 c4,.int .i64 (room:Int),.int .i64 (a:Int),.slice S' sn' sc',.slice P' pn' pc',.bool ol])∧Hid (L7 wx (w.heap.size+2) [g7] O4 n4 c4 (Lb ⟨ls,(room:Int),(a:Int),sl,pl,ol⟩ line))∧Hid (Bg wx (w.heap.size+2) (.slice P' pn' pc') pl)∧Hid (An wx (w.heap.size+1) 54 #[.slice none 0 0,.int .i64 0,.int .i64 0,.slice none 0 0,.slice none 0 0,.bool false])∧Hid (Al w wx)∧n4≤1000∧g7<wx.heap.size)
   case first=>
    cases hb:decide (0<q)
    ·have hla:Hid (Lb ⟨ls,(room:Int),(a:Int),sl,pl,ol⟩ line=ls):=A4 (by unfold Lb;rw[if_pos (by rw[hql.out];simp at hb;omega)])
     clear hb;go_wp2_with fail
     go_meet
     exact⟨O,n',d,b7,A4 (by rw[hla.out];exact HON.out.fewer (fun k hk=>by simp at hk;simp[hk])),HOPW,HB6,HXW,by omega,hg7⟩
    ·have hq0:0<q:=by simp at hb;omega
     have hla:Hid (Lb ⟨ls,(room:Int),(a:Int),sl,pl,ol⟩ line=dX room (ls++[line])):=A4 (by unfold Lb;rw[if_neg (by rw[hql.out];omega)];rfl)
     have HNew:=A4 (RS.ringNew_ok (room:Int) room (.inr (.inl ⟨by omega,by omega,rfl⟩)) W)
     obtain⟨_,c31,_⟩:=Cg B3W.out;clear hb;go_wp2_with fail
     refine HNew.out.mono ?_
     rintro e w4 ⟨rfl,hR,he4⟩;have HR4:=A4 hR;have HON4:=A4 (HON.out.ext he4);obtain⟨xs,hO1,hO2,_,hO4,hO5⟩:=HON4.out;have HO1:=A4 hO1;have HO2:=A4 hO2;have HO4:=A4 hO4;have HO5:=A4 hO5;have HX4:=A4 (HXW.out.trans he4);have b74:=A4 (An.ext b7.out he4);have B64:=A4 (An.ext HB6.out he4);have HPW4:=A4 (HOPW.out.ext he4);have hz4:W.heap.size+1<w4.heap.size:=hR.1.lt;have HC:=A4 (Cy (HLn.out.ext (HX4.out.trans (Al.drew w4))) hN (by omega))
     obtain⟨a0,_⟩:=Cg b74.out;have a1:w4.drew.cell? ⟨g7,0,none⟩=some (.slice O n' d):=a0;clear HNew hR he4 hO1 hO2 hO4 hO5 HON4 HON HXW b7 HB6 HOPW c31 a0 B3W;go_upto_region 9 with fail
     go_region_law (first
      |(
       refine J1 rfl 16 #[.slice N q y] (by kernel_rfl) (fun v w'=>∃B2 d2,v=.slice B2 q d2∧Av w' w4.drew.heap.size B2 q d2 line∧(B2=none→d2=0)∧Al w4.drew w') (HC.out.mono fun e w' ⟨B2,d2,h1,h2⟩=>⟨_,h1,B2,d2,rfl,h2⟩) ?_
       rintro v w5 ⟨B2,q2,rfl,hoc,hnc,hec⟩;have b1:=hec.cell a1;have b2:(w5.alloc (.cells #[.slice B2 q q2] 27)).cell? ⟨g7,0,none⟩=some (.slice O n' d):=Al.cell (Al.alloc _ _) b1)
      |(
       refine Mn rfl (.tmp 30) (.tmp 33) 41 rfl w (w.heap.size+2) 27 i0 _ 1 24 Tryz.underlying41 HI.out hz0 hz1 hz2 rfl (by decide) O n' d xs rfl (Ay.ext HO1.out ((Al.drew w4).trans hec)) #[.slice B2 q q2] rfl (by simp[Value.oneCell']) rfl (by unfold maxLen;omega) (by omega) (HX4.out.trans ((Al.drew w4).trans hec)) (by omega) (Ap (show w.heap.size+2≤w4.heap.size by omega) ((Al.drew w4).trans hec).hsize) ?_
       intro O3 d3 w6 hO3 hgr hor hx3))
     all_goals
      have he5:=(Al.drew w4).trans hec;have hz5:w4.heap.size≤w5.heap.size:=he5.hsize;have hclone:Bg w5 (w.heap.size+2) (.slice B2 q q2) line:=⟨B2,q,q2,rfl,Ay.lower hoc (show w.heap.size+2≤w4.heap.size by omega),hnc,by omega⟩
      have hcb:∀k,(Aj B2 q q2).ownBlock=some k→w4.heap.size≤k∧k∉[g7,W.heap.size,W.heap.size+1]:=fun k hk=>by
       have h1:w4.heap.size≤k:=(Ay.blk hoc k hk).1;exact⟨h1,fun hm=>by simp at hm;omega⟩
      have HL6:=A4 (nE HO1.out HO2.out HO4.out HO5.out (fun k hk=>by simp at hk;omega) he5 hclone hcb hO3 hgr hor)
      have HE56:=A4 (Rq.grown (N:=(Aj O n' d).ownBlock.toList) hgr (fun k hk=>by rw[hk];simp))
      have HR6:=A4 ((HR4.out.ext he5).grown hgr (fun e=>HO4.out _ e.symm (by simp)) (fun e=>HO4.out _ e.symm (by simp)))
      have B76:=A4 (An.grown (An.ext b74.out he5) hgr (fun e=>HO4.out _ e.symm (by simp)))
      have B66:=A4 (An.grown (An.ext B64.out he5) hgr (fun e=>by have:=(Ay.blk HO1.out _ e.symm).1;omega))
      have HP6:Hid (Bg w6 (w.heap.size+2) (.slice P' pn' pc') pl):=A4 (by
       obtain⟨P1,p1,p2,hh,k1,k2⟩:=HPW4.out.ext he5;injection hh with e1 e2 e3;subst e1;subst e2;subst e3;refine⟨P',pn',pc',rfl,Ay.kept k1 hgr ?_,k2⟩
       cases hb:(Aj P' pn' pc').ownBlock with
       |none=>exact .inl rfl
       |some g=>exact .inr (fun e=>Ay.unlike k1 (Ay.ext HO1.out he5) (by decide) g hb e.symm))
      have HX6:=A4 hx3;obtain⟨xs6,hO61,hO62,_,hO64,hO65⟩:=HL6.out;obtain⟨lv,hlv⟩:=uH hO62.lnv;have hlvn:Hid (lv.length=n'+1):=A4 (by have:=hO61.len;rw[←hlv]at this;simpa using this)
      have HLV:=A4 hlv;have HO61:=A4 hO61;have HO62:=A4 hO62;have HO64:=A4 hO64;have HO65:=A4 hO65;have HH6:Hid (RS.Held w6 (W.heap.size+1) W.heap.size room lv 0):=A4 ⟨0,_,by simpa using HR6.out,RS.slots_start _ _ (by simp),fun _=>by simp⟩
      have hz6:W.heap.size+1<w6.heap.size:=HR6.out.1.lt;have hbase6:w.heap.size+2≤w6.heap.size:=by omega
      clear HC a1 b1 b2 hoc hnc hec hO3 hgr hor hx3 he5 hclone hcb HR4 HO1 HO2 HO4 HO5 HX4 b74 B64 HPW4 HR6 HE56 hO61 hO62 hO64 hO65 hlv hz5 HL6;go_simp
      go_wp2_with fail
      go_loopw [36] (fun s36 wr=>∃j:Nat,s36=.int .i64 (j:Int)∧j≤n'+1∧Hid (RS.Held wr (W.heap.size+1) W.heap.size room lv j)∧Hid (Rq [W.heap.size,W.heap.size+1] w6 wr)∧Hid (Al w wr)) (fun s36 _=>n'+1-(intOf s36).toNat)
      case atStart=>exact⟨0,rfl,by omega,HH6,A4 (Rq.refl _ _),HX6⟩
      case round=>
       obtain⟨j,rfl,hj,HHr,HEr,HXr⟩:=hrel;have hO6r:=Ay.eqv HO61.out HEr.out (fun k hk hm=>HO64.out k hk (by simp at hm;simp;omega))
       by_cases hlt:j<n'+1
       ·obtain⟨ad,rfl,hc⟩:=(Ay.rd hO6r).at_ hlt
        have hcj:wr.cell? (ad.add j)=some (.slice (RS.gS lv j).a (RS.gS lv j).n (RS.gS lv j).c):=hc j _ (by
         rw[←HLV.out];have h1:j<lv.length:=by rw[hlvn.out];exact hlt
         simp[RS.gS,RS.Sl.v,h1])
        have HPu:=A4 (RS.push_held HHr.out (by omega))
        clear hc hO6r;go_wp2_with fail
        refine HPu.out.mono ?_
        rintro e w7 ⟨rfl,hH7,hP7⟩;have hsv:Rq [W.heap.size,W.heap.size+1] wr w7∧Al w w7:=by
         rcases hP7 with rfl|hP
         ·exact⟨Rq.refl _ _,HXr.out⟩
         ·refine⟨?_,hP.ext HXr.out (by omega) (by omega)⟩
          obtain⟨x,p,i,u,rfl⟩:=hP;exact((Rq.setCell wr _ _ (by simp)).trans ((Al.drew _).eqv _)).trans (Rq.setCell _ _ _ (by simp))
        have H1:=A4 hH7;have H2:=A4 (HEr.out.trans hsv.1);have H3:=A4 hsv.2;clear HPu hH7 hP7 hsv HHr HEr HXr hcj;go_wp2_with fail
        go_roundw
        case rel=>exact⟨j+1,by go_num,by omega,H1,H2,H3⟩
        case measure=>simp[intOf];omega
       ·obtain rfl:j=n'+1:=by omega
        have hzr:w6.heap.size≤wr.heap.size:=HEr.out.1;have HO62r:=A4 (HO62.out.eqv HEr.out (fun i v hv k hk hm=>HO65.out i v hv k hk (by simp at hm;simp;omega)))
        have B7r:=A4 (An.eqv B76.out HEr.out (fun hm=>by simp at hm;omega))
        have B6r:=A4 (An.eqv B66.out HEr.out (fun hm=>by simp at hm;omega))
        have HPr:=A4 (Bg.eqv HP6.out HEr.out (fun k hk hm=>HPb.out k hk (by simp at hm;simp;omega)))
        obtain⟨f,ss,hRA,hsl,hff⟩:=HHr.out;have hfl:f<room:=by rw[hff (by omega)];exact Nat.mod_lt _ (by omega)
        have HLi:=A4 (RS.ringList_ok hRA hsl.1 (Nat.min_le_right _ _) (.inl hfl) (by omega))
        have hll:Hid (RS.ringL ss room f (min (n'+1) room)=lv.drop (lv.length-min lv.length room)):=A4 (by
         have h1:RS.slotsOk lv ss room lv.length:=by rw[hlvn.out];exact hsl
         have h2:0<room→f=(lv.length-min lv.length room)%room:=by rw[hlvn.out];exact hff
         have:=RS.held_list h1 h2;rw[hlvn.out]at this ⊢;exact this)
        clear hRA hsl hff hfl HHr HEr hlt hO6r;go_wp2_with fail
        refine HLi.out.mono ?_
        rintro e w8 ⟨A8,c8,rfl,hO8,he8⟩;rw[hll.out]at hO8;have HL8:=A4 (nF (M:=[g7]) HO62r.out HO65.out HLV.out he8 hO8 rfl (by omega) (fun k hk=>by simp at hk;subst hk;exact⟨by simp,by omega⟩))
        have B78:=A4 (An.ext B7r.out he8);have B68:=A4 (An.ext B6r.out he8);have HP8:=A4 (HPr.out.ext he8);have HX8:=A4 (HXr.out.trans he8);have hE8:=Rq.setCell (N:=[g7]) w8 ⟨g7,0,none⟩ (.slice A8 (min (n'+1) room) c8) (by simp)
        have R1:=A4 (B78.out.set_ 0 (.slice A8 (min (n'+1) room) c8));have R2:Hid (L7 (w8.setCell ⟨g7,0,none⟩ (.slice A8 (min (n'+1) room) c8)) (w.heap.size+2) [g7] A8 (min (n'+1) room) c8 (Lb ⟨ls,(room:Int),(a:Int),sl,pl,ol⟩ line)):=A4 (by
         rw[hla.out];have h1:(ls++[line]).length=lv.length:=by rw[hlvn.out];simp[HN.out]
         unfold dX;rw[h1];exact HL8.out.eqv hE8)
        have R3:=A4 (HP8.out.eqv hE8 (fun k hk hm=>HPb.out k hk (by simp at hm;simp[hm])))
        have R4:=A4 (An.eqv B68.out hE8 (fun hm=>by simp at hm;omega))
        have R5:=A4 (HX8.out.setCell (p:=⟨g7,0,none⟩) (show w.heap.size≤g7 by omega) (.slice A8 (min (n'+1) room) c8))
        have R7:g7<(w8.setCell ⟨g7,0,none⟩ (.slice A8 (min (n'+1) room) c8)).heap.size:=R1.out.lt;have hmin:min (n'+1) room≤1000:=by omega
        obtain⟨c70,_⟩:=Cg B78.out;have f70:=B78.out.frozen 0;clear HLi hO8 he8 HL8 B78 B68 HP8 HX8 hE8 HO62r B7r B6r HPr HXr hll hzr;go_wp2_with fail
        go_meet
        exact⟨A8,_,c8,R1,R2,R3,R4,R5,hmin,R7⟩
   case rest=>
    obtain⟨O4,n4,c4,HB7,HL4,HP4,HB6,HX4,hn4,hg4⟩:=hcut;have hlen4:Hid ((Lb ⟨ls,(room:Int),(a:Int),sl,pl,ol⟩ line).length=n4):=A4 HL4.out.o.lns.len;obtain⟨c0,c1,c2,c3,c4',c5⟩:=Cg HB7.out;obtain⟨f0,f1,f2,f3,f4,f5⟩:=Du HB7.out;have hE:=(Rq.setCell (N:=[g7]) wc ⟨g7,2,none⟩ (.int .i64 (n4:Int)) (by simp)).trans (Rq.setCell (N:=[g7]) (wc.setCell ⟨g7,2,none⟩ (.int .i64 (n4:Int))) ⟨g7,3,none⟩ (.slice none 0 0) (by simp))
    have R1:=A4 ((HB7.out.set_ 2 (.int .i64 (n4:Int))).set_ 3 (.slice none 0 0));have R2:=A4 (HL4.out.eqv hE);have R3:=A4 (HP4.out.eqv hE (fun k hk hm=>HPb.out k hk (by simp at hm;simp[hm])))
    have R4:=A4 (An.eqv HB6.out hE (fun hm=>by simp at hm;omega))
    have R5:=A4 ((HX4.out.setCell (p:=⟨g7,2,none⟩) (show w.heap.size≤g7 by omega) (.int .i64 (n4:Int))).setCell (p:=⟨g7,3,none⟩) (show w.heap.size≤g7 by omega) (.slice none 0 0))
    clear hE HL4 HP4 HX4;go_upto_region 16 with fail
    clear HB7 HB6 c0 c1 c2 c3 c4' c5 f0 f1 f2 f3 f4 f5;generalize (wc.setCell ⟨g7,2,none⟩ (.int .i64 (n4:Int))).setCell ⟨g7,3,none⟩ (.slice none 0 0)=W9 at*;have R1':Hid (An W9 g7 54 #[.slice O4 n4 c4,.int .i64 (room:Int),.int .i64 (n4:Int),.slice none 0 0,.slice P' pn' pc',.bool ol]):=A4 R1.out;obtain⟨c0,c1,c2,c3,c4',c5⟩:=Cg R1'.out;obtain⟨d0,d1,d2,d3,d4,d5⟩:=Cg R4.out;obtain⟨f0,f1,f2,f3,f4,f5⟩:=Du R4.out;have hlt1:w.heap.size+1<w.heap.size+2:=by omega
    have HHis:Hid (D3 W9 (w.heap.size+2) (.agg (Ce O4 n4 c4 (room:Int) (n4:Int) none 0 0 P' pn' pc' ol)) (kJ ⟨ls,(room:Int),(a:Int),sl,pl,ol⟩ line)):=A4 (by
     refine⟨O4,n4,c4,none,0,0,P',pn',pc',?_,R2.out.o,Bg.nil _ _,R3.out⟩
     unfold kJ;simp only;rw[hlen4.out])
    have HO6:=A4 (Gk HHis.out hlt1 (.slice O4 n4 c4) (.int .i64 (room:Int)) (.int .i64 (n4:Int)) (.slice none 0 0) (.slice P' pn' pc') (.bool ol));have HX6:=A4 (Em R5.out (show w.heap.size≤w.heap.size+1 by omega) (.slice O4 n4 c4) (.int .i64 (room:Int)) (.int .i64 (n4:Int)) (.slice none 0 0) (.slice P' pn' pc') (.bool ol))
    have hf6:=A4 (En R4.out (.slice O4 n4 c4) (.int .i64 (room:Int)) (.int .i64 (n4:Int)) (.slice none 0 0) (.slice P' pn' pc') (.bool ol));unfold Pg at HO6 HX6 hf6;clear R1 R2 R3 R4 R5 R1' HHis;go_wp2_with fail
    refine bodyPost_ret (v:=.tuple #[.agg (Ce O4 n4 c4 (room:Int) (n4:Int) none 0 0 P' pn' pc' ol),.int .i64 0]) ?_ rfl ⟨HX6.out,.inl ⟨HOK.out,_,rfl,HO6.out.lower (by omega)⟩⟩
    exact J6 rfl _ _ (w.heap.size+1) 54 _ _ _ _ rfl rfl hf6.out Tryz.underlying54 rfl (Ek rfl)
open Classical
def kM:Hi:=⟨[],0,0,[],[],false⟩
theorem lJ (w:World)(b:Nat):D3 w b (.agg Dj) kM:=
 ⟨none,0,0,none,0,0,none,0,0,rfl,⟨[],Ay.nil _ _ _ _,⟨rfl,fun i hi=>absurd hi (by simp[kM])⟩,fun _=>rfl⟩,⟨none,0,0,rfl,Av.nil _ _,fun _=>rfl,by omega⟩,⟨none,0,0,rfl,Av.nil _ _,fun _=>rfl,by omega⟩⟩
noncomputable def Pl (h:Hi)(line:List Int):Hi:=if wU h line then kJ h line else kM
theorem xW {h:Hi}{q y:Nat}(hv:L8 w v h)(hln:Bi w N q y line)(hN:N=none→y=0):
 Calls Tryz.prog 45 #[v,.slice N q y] w fun e w'=>∃u x,e=.returned (.tuple #[u,.int .i64 x])∧D3 w' w.heap.size u (Pl h line)∧Al w w':=by
 refine(wL hv hln hN).mono ?_
 rintro e w' ⟨he,⟨hok,u,rfl,ho⟩|⟨hok,x,rfl,_⟩⟩
 ·exact⟨u,0,rfl,by unfold Pl;rw[if_pos hok];exact ho,he⟩
 ·exact⟨_,x,rfl,by unfold Pl;rw[if_neg hok];exact lJ _ _,he⟩
end
