/-
  Part ZVkR.
-/
import Derived.Test.YtkaefdmhlmlhbaaGreatZVjQ
import Derived.Test.YtkaefdmhlmlhbaaGreatZHasI
set_option maxRecDepth 100000
set_option maxHeartbeats 16000000
set_option linter.unusedVariables false
set_option linter.unusedSimpArgs false
namespace Go.Proofs.YtkaefdmhlmlhbaaGreat
open Go.RowKit
open _root_.Go.Proofs.Tryz
open _root_.List renaming getElem?_cons_succ→Ag,getElem?_cons_zero→Af,getElem?_toArray→Ah,length_cons→E3
open _root_.Nat renaming le_refl→Aj,le_trans→Ar
open _root_.And renaming intro→Au
open Region renaming wanted→Bu
open Value renaming slice→Ak
section
variable {l line ty:List Int}{col col':Nat→Nat}{w w0 w':World}{A:Option Addr}{s s1:PS}{t:ByteArray}{W N n c p:Nat}
theorem J7v (s:PS)(k:Int):(Cn s k).first=s.first:=by
 unfold Cn;split
 ·rfl
 ·exact I158
theorem J7x:∀(ks:List Int) (s:PS),(keysF s ks).first=s.first:=by
 intro ks
 induction ks with
 |nil=>exact fun s=>rfl
 |cons k ks ih=>exact fun s=>(ih (Cn s k)).trans (J7v s k)
theorem J8f (s:PS)(c:Cm)(d:Dn):(Hq s c d).first=s.first:=by
 unfold Hq L3 Fe;split<;>(split<;>rfl)
theorem J8e (s:PS)(c:Cm):(doS s c).first=s.first:=by
 unfold doS;cases L2 s.tx s.rl s.at_ s.fk s.fa c with
 |none=>rfl
 |some d=>exact J8f s c d
theorem J7y:∀(l:List Int),(∀x∈l,Df x)→l.length≤(Hs l).length:=by
 intro l
 induction l with
 |nil=>exact fun _=>Aj _
 |cons x l ih=>
  intro h;have:=ih (fun y hy=>h y (List.mem_cons_of_mem _ hy))
  obtain⟨b,m,e,_⟩:=pJ (h x List.mem_cons_self);have e2:Hs (x::l)=Gz x.toNat++Hs l:=rfl;rw[e2,List.length_append,e,E3,E3];omega
theorem J7u {c:Cm}{ty:List Int}(hq:s.mode=0∧s.part=Pt.zero∧s.over=false)(h:mD s c ty t s1):
 s1.pend=[]∧s1.first=s.first∧∃ks,s1.last=some (c,ks)∧ks.length≤1000:=by
 have N1:=trivial;exact K48
theorem J8i (h:L6 W N s)(hm:s.mode=0)(hl:∀c ks,s.last=some (c,ks)→ks.length≤1000):L6 W 1000 s:=by
 obtain⟨T,hT⟩:=h.inv;refine⟨⟨T,{ hT with
  last:=fun c ks e=>⟨(hT.last c ks e).arg,(hT.last c ks e).keys,hl c ks e⟩
  now:=fun c ks e=>by rw[hT.idle (.inl hm)]at e;cases e }⟩,h.win,h.pend⟩
theorem J8m {c:Cm}{ty:List Int}(hq:s.mode=0∧s.part=Pt.zero∧s.over=false)(h:mD s c ty t s1)(hs:L6 W N s1):L6 W 1000 s1:=by
 obtain⟨_,_,ks,hl,hk⟩:=J7u hq h;refine J8i hs h.2.2.2.2.2.1 fun c' ks' e=>?_
 rw[hl]at e;injection e with e;injection e with e1 e2;subst e2;exact hk
def upB:ByteArray:=⟨#[85]⟩
def unB:ByteArray:=⟨#[117]⟩
def E6:ByteArray:=⟨#[13,27,107]⟩
theorem J7t {b:ByteArray}{k:Int}{c:Cm}(hb:Dh [] (Ap b)=⟨[],[k]⟩)(hk:Fw [k]=⟨[c],Pt.zero,0⟩)(hp:s.pend=[])(hq:s.mode=0∧s.part=Pt.zero∧s.over=false):
 Cg (Cj s b)=Di (Cg (Ce s [])) c∧(Cj s b).pend=[]:=by
 have e:Cj s b=Bq (Ce s []) [k]:=by
  unfold Cj;rw[hp,hb]
 refine⟨?_,?_⟩
 ·rw[e]
  exact Sg (s:=Ce s []) hk hq.1 hq.2.1 hq.2.2
 ·rw[e,M0]
  rfl
theorem J8n (hp:s.pend=[])(hq:s.mode=0∧s.part=Pt.zero∧s.over=false)(h:s.tx=s.first):(Cj s upB).told.length=1∧(Cj s upB).tx=s.tx∧(Cj s upB).at_=s.at_:=by
 have h1:=(J7t (b:=upB) (k:=85) (c:=⟨0,0,0,85,0⟩) rfl rfl hp hq).1;have e:Di (Cg (Ce s [])) ⟨0,0,0,85,0⟩=J4 (Cg (Ce s [])):=rfl;have e2:J4 (Cg (Ce s []))=Ec (Cg (Ce s [])):=by
  unfold J4;have:Uv (Cg (Ce s [])).tx (Cg (Ce s [])).first=true:=Q5.2 h;rw[this]
  rfl
 rw[e,e2]at h1;exact⟨(congrArg (fun x=>x.told.length) h1 :),(congrArg PS.tx h1 :),(congrArg PS.at_ h1 :)⟩
theorem J8a (l:List (List Int×Int))(x:List Int×Int):((l++[x]).drop (l.length+1-30)).length≠0∧gP ((l++[x]).drop (l.length+1-30)) (((l++[x]).drop (l.length+1-30)).length-1)=x:=by
 have h1:((l++[x]).drop (l.length+1-30)).length=l.length+1-(l.length+1-30):=by simp
 refine⟨by omega,?_⟩
 unfold gP;rw[h1,List.getElem?_drop,show l.length+1-30+(l.length+1-(l.length+1-30)-1)=l.length by omega,List.getElem?_append_right (Aj _)]
 simp
theorem J8h (hp:s.pend=[])(hq:s.mode=0∧s.part=Pt.zero∧s.over=false)(h:s.tx≠s.first):
 (Cj s upB).told.length=0∧(Cj s upB).tx=s.first∧(Cj s upB).over=false∧(Cj (Cj s upB) unB).tx=s.tx∧(Cj (Cj s upB) unB).at_=s.at_:=by
 obtain⟨h1,h2⟩:=J7t (b:=upB) (k:=85) (c:=⟨0,0,0,85,0⟩) rfl rfl hp hq;have e:Di (Cg (Ce s [])) ⟨0,0,0,85,0⟩=J4 (Cg (Ce s [])):=rfl;have e2:J4 (Cg (Ce s []))={ Pl (Cg (Ce s []))with tx:=s.first,at_:=0 }:=by
  unfold J4;have:Uv (Cg (Ce s [])).tx (Cg (Ce s [])).first=false:=Zr.2 h;rw[this]
  rfl
 rw[e,e2]at h1;generalize Cj s upB=a at*;have q1:a.mode=0:=(congrArg PS.mode h1 :).trans hq.1;have q2:a.part=Pt.zero:=(congrArg PS.part h1 :).trans hq.2.1;have q3:a.over=false:=(congrArg PS.over h1 :).trans hq.2.2;have h3:=(J7t (s:=a) (b:=unB) (k:=117) (c:=⟨0,0,0,117,0⟩) rfl rfl h2 ⟨q1,q2,q3⟩).1;have e3:Di (Cg (Ce a [])) ⟨0,0,0,117,0⟩=Gm (Cg (Ce a [])):=rfl;have hpa:a.past=(s.past++[(s.tx,s.at_)]).drop (s.past.length+1-30):=(congrArg PS.past h1 :);obtain⟨p1,p2⟩:=J8a s.past (s.tx,s.at_);rw[←hpa]at p1 p2;have e4:Gm (Cg (Ce a []))={ Cg (Ce a [])with past:=a.past.take (a.past.length-1),tx:=s.tx,at_:=s.at_ }:=by
  unfold Gm;rw[if_neg (show ¬(Cg (Ce a [])).past.length=0 from p1)]
  show({ Cg (Ce a [])with past:=a.past.take (a.past.length-1),tx:=(gP a.past (a.past.length-1)).1,at_:=(gP a.past (a.past.length-1)).2 }:PS)=_
  rw[p2]
 rw[e3,e4]at h3;exact⟨(congrArg (fun x=>x.told.length) h1 :),(congrArg PS.tx h1 :),q3,(congrArg PS.tx h3 :),(congrArg PS.at_ h3 :)⟩
theorem J8j:∀(l:List Int) (s:PS),s.mode=1→s.at_=s.tx.length→s.now=none→s.tx.length+l.length≤200→(∀k∈l,32≤k∧k≠127)→
 keysF s l={ s with tx:=s.tx++l,at_:=((s.tx.length+l.length:Nat):Int) }:=by
 intro l
 induction l with
 |nil=>
  intro s _ ha _ _ _
  show s=_
  rw[List.append_nil,List.length_nil,Nat.add_zero,←ha]
 |cons k l ih=>
  intro s hm ha hn hl hk;have fv:=hk k List.mem_cons_self;rw[E3]at hl;have e1:Cn s k={ s with tx:=s.tx++[k],at_:=((s.tx.length+1:Nat):Int) }:=by
   unfold Cn;rw[if_neg (by omega),ha,hm]
   unfold Gy;rw[if_pos fv,if_neg (fun h=>absurd h.1 (by decide)),if_neg (by omega)]
   simp[hn]
  have e2:keysF s (k::l)=keysF (Cn s k) l:=rfl;have hi:=ih { s with tx:=s.tx++[k],at_:=((s.tx.length+1:Nat):Int) } hm (by simp) hn (by simp;omega) (fun x hx=>hk x (List.mem_cons_of_mem _ hx))
  rw[e2,e1,hi];simp[Nat.add_assoc,Nat.add_comm 1]
theorem J8d {W:Nat}(hs:∀x∈l,Df x)(ht:∀k∈l,32≤k∧k≠127)(h1:l.length≠0)(h2:l.length≤200):
 (Cj (Kx 5 W) (Em (Hs l)++E6)).mode=0∧(Cj (Kx 5 W) (Em (Hs l)++E6)).part=Pt.zero∧(Cj (Kx 5 W) (Em (Hs l)++E6)).over=false∧
 (Cj (Kx 5 W) (Em (Hs l)++E6)).tx=l∧(Cj (Kx 5 W) (Em (Hs l)++E6)).first=l∧(Cj (Kx 5 W) (Em (Hs l)++E6)).pend=[]:=by
 have gj:∀x∈l++[13,27,107],Df x:=fun x hx=>by
  rcases List.mem_append.1 hx with h|h
  ·exact hs x h
  ·simp only[List.mem_cons,List.not_mem_nil,or_false]at h
   rcases h with rfl|rfl|rfl<;>decide
 have hnu:Ap (Em (Hs l)++E6)=Hs (l++[13,27,107]):=by
  rw[Wr,Jg (Sf hs)];unfold Hs;rw[List.flatMap_append]
  congr 1
 have hm:Dh (Kx 5 W).pend (Ap (Em (Hs l)++E6))=⟨[],l++[13,27,107]⟩:=by
  unfold Dh;rw[hnu,show(Kx 5 W).pend=[]from rfl,Wd (l++[13,27,107]) [] gj]
  rfl
 obtain⟨s0,gp⟩:∃x,x=Ce (Kx 5 W) []:=⟨_,rfl⟩;have he:Cj (Kx 5 W) (Em (Hs l)++E6)=E0 (E0 (E0 (Bq s0 l) 13) 27) 107:=by
  unfold Cj;rw[hm,gp,Xe]
  rfl
 have hp:(E0 (E0 (E0 (Bq s0 l) 13) 27) 107).pend=[]:=by rw[mY,mY,mY,M0,gp];rfl
 rw[he];clear he hm hnu gj;have hT:Typ l:=fun k hk=>.inr (ht k hk)
 obtain⟨a1,a2,a3⟩:=eH l (s:=s0) (.inl (by rw[gp];rfl)) (by rw[gp];rfl) hT
 rw[J8j l (Cg s0) (by rw[gp];rfl) (by rw[gp];rfl) (by rw[gp];rfl) (by rw[gp];show 0+l.length≤200;omega) ht]at a1
 have a2:(Bq s0 l).mode=1:=a2.trans (by rw[gp];rfl)
 generalize Bq s0 l=sl at*;have b1:E0 sl 13=Jo (Nt sl):=by
  unfold E0;rw[if_neg (by rw[a3];decide)]
  unfold Ez;rw[if_neg (by decide),if_neg (by rw[a2];decide),if_pos (by decide)]
 have b2:Cg (E0 sl 13)=Nt (Cg sl):=by rw[b1];rfl
 rw[a1,gp]at b2;have b3:(E0 sl 13).mode=1:=by rw[b1];rfl
 have b4:(E0 sl 13).over=false:=by rw[b1];exact a3
 generalize E0 sl 13=sa at*;have c1:Cg (E0 sa 27)=Pu (Cg sa):=by
  rw[Xf (.inl b3) b4 ⟨by decide,by decide,by decide,by decide⟩,Qh]
  rfl
 have c2:(E0 sa 27).mode=0:=(show(Cg (E0 sa 27)).mode=0 from by rw[c1];rfl)
 have c3:(E0 sa 27).over=false:=(show(Cg (E0 sa 27)).over=false from by rw[c1];exact b4)
 have c4:(E0 sa 27).part=Pt.zero:=(show(Cg (E0 sa 27)).part=Pt.zero from by rw[c1];show(Cg sa).part=_;rw[b2];rfl)
 generalize E0 sa 27=sb at*;have d1:Cg (E0 sb 107)=Di (Cg sb) ⟨0,0,0,107,0⟩:=Sg (s:=sb) (ks:=[107]) (c:=⟨0,0,0,107,0⟩) rfl c2 c4 c3;have hi:Pi ⟨[],5,0,[],[],false⟩ l=⟨[l],5,1,[],[],false⟩:=by
  unfold Pi;rw[if_pos ⟨by decide,by rintro⟨i,hi,ae⟩;have hi:i<2:=hi;rcases(show i=0∨i=1 by omega)with rfl|rfl<;>exact absurd ae (by decide),h2⟩]
  unfold rD Nd;rw[if_neg h1]
  rfl
 have f1:Di (Cg sb) ⟨0,0,0,107,0⟩=lV (Cg sb) 0:=rfl;have f2:(Cg sb).hi=⟨[l],5,1,[],[],false⟩:=by
  rw[c1,b2];exact hi
 have f3:(Cg sb).tx=[]:=by rw[c1,b2];rfl
 have f4:lV (Cg sb) 0=Ps (Cg sb) (toH ⟨[l],5,1,[],[],false⟩ [] 0) l:=by
  unfold lV;rw[f2,f3,if_pos ⟨⟨by unfold Hi.bad;simp,by
   rintro⟨i,hi,ae⟩;have hi:i<3:=hi;rcases(show i=0∨i=1∨i=2 by omega)with rfl|rfl|rfl
   ·have ae:200<l.length:=ae;omega
   ·exact absurd (show 200<([]:List Int).length from ae) (by decide)
   ·exact absurd (show 200<([]:List Int).length from ae) (by decide),by decide,by decide,by decide⟩,show((1:Nat):Int)≤1 from by decide⟩]
  rfl
 rw[f1,f4]at d1;exact⟨(congrArg PS.mode d1 :),(congrArg PS.part d1 :),(congrArg PS.over d1 :).trans c3,(congrArg PS.tx d1 :),(congrArg PS.first d1 :),hp⟩
theorem J7z {v:SV}(hm:Dm w col p v s)(bD:s.tx.length≤200)(te:s.hi.lines.length≤1000)(hq:s.mode=0∧s.part=Pt.zero∧s.over=false):
 Calls prog 21 #[.pointer (some ⟨p,0,none⟩)] w fun e w'=>e=.returned (.bool true)∧An w w':=by
 have HL:=A6 (Ks hm bD te);have HQ:=A6 hq;clear hm bD te hq;go_enter func21,ntmps21
 go_wp2_with fail
 refine HL.out.mono ?_
 rintro e w1 ⟨cs,rfl,hL,aj⟩;have oz:=A6 hL;have QX:=A6 aj;clear hL aj HL;go_upto_region 2 with(refine wpList_store_row rfl 43 (.tmp 3) (.tmp 5) rfl w1.heap.size cs rfl rfl 43 Dx (Aq.new w1 _ Dx) (Jh oz.out.size) (by rw[oz.out.size];rfl) oz.out.one ?_)
 change Code.wp _ _ _ _ ((w1.alloc (.cells Dx 43)).setRow w1.heap.size cs);obtain⟨hx,hb⟩:=oM w1 cs;generalize (w1.alloc (.cells Dx 43)).setRow w1.heap.size cs=W at*;generalize w1.heap.size=g at*;have HX:=A6 (QX.out.trans hx);have h:=oz.out;obtain⟨p3,p4,p5,p6,p7⟩:=h.part;obtain⟨q1,q2,q3⟩:=HQ.out;rw[q2]at p3 p4 p5 p6 p7;have c2:=(hb.cell 2).trans h.mode;have c3:W.cell? ⟨g,3,none⟩=some (.int .i64 0):=(hb.cell 3).trans p3;have c4:W.cell? ⟨g,4,none⟩=some (.int .i64 0):=(hb.cell 4).trans p4;have c5:W.cell? ⟨g,5,none⟩=some (.int .i64 0):=(hb.cell 5).trans p5;have c6:W.cell? ⟨g,6,none⟩=some (.int .i64 0):=(hb.cell 6).trans p6;have c7:W.cell? ⟨g,7,none⟩=some (.int .i64 0):=(hb.cell 7).trans p7;have c40:=(hb.cell 40).trans h.over;rw[q1]at c2;rw[q3]at c40;clear h hb hx p3 p4 p5 p6 p7 q1 q2 q3 oz QX HQ;go_wp2_with fail
 go_ret
 exact⟨rfl,HX.out⟩
structure One (w0 w:World)(col:Nat→Nat)(p:Nat)(v:SV)(s:PS):Prop where
 x:An w0 w
 l:Dm w col p v s
 bl:∀k,col k≠0→w0.heap.size≤k
theorem One.ext {v:SV}(h:One w0 w col p v s)(he:An w w'):One w0 w' col p v s:=⟨h.x.trans he,h.l.ext he,h.bl⟩
theorem One.turn {v v':SV}{s s':PS}(h:One w0 w col p v s)(hm:Dm w' col' p v' s')(ht:Km w col w' col'):One w0 w' col' p v' s' where
 x:=ht.alt.to_ext h.x fun k hk hM=>absurd (h.bl k hM.1) (by omega)
 l:=hm
 bl:=fun k hk=>by
  rcases Nat.lt_or_ge k w.heap.size with h1|h1
  ·exact h.bl k (ht.sub k h1 hk)
  ·exact Ar h.x.hsize h1
structure J7q (W:Nat)(line:List Int)(s:PS):Prop where
 ok:L6 W 1000 s
 q:s.mode=0∧s.part=Pt.zero∧s.over=false
 pend:s.pend=[]
 first:s.first=line
theorem J7q.chg {c:Cm}(h:J7q W line s)(hP:mD s c ty t s1)(hs:L6 W N s1):J7q W line s1:=by
 obtain⟨h1,h2,_⟩:=J7u h.q hP;have hq:=hP.2.2.2.2.2;exact⟨J8m h.q hP hs,⟨hq.1,hq.2.1,hq.2.2.1⟩,h1,h2.trans h.first⟩
structure Far (w:World)(col:Nat→Nat)(b:Nat)(A:Option Addr)(n c:Nat)(l:List Int):Prop where
 own:Ba w b A n c l
 far:∀k,(Ak A n c).ownBlock=some k→col k=0
theorem Far.ext {w w':World}{b:Nat}(h:Far w col b A n c l)(he:An w w'):Far w' col b A n c l:=⟨Bd.ext h.own he,h.far⟩
theorem Far.turn {w w':World}{b:Nat}(h:Far w col b A n c l)(ht:Km w col w' col'):Far w' col' b A n c l:=
 ⟨Bd.same h.own fun k e=>ht.alt.block k (Bd.blk h.own k e).2 fun hM=>hM.1 (h.far k e),fun k e=>Decidable.byContradiction fun hn=>ht.sub k (Bd.blk h.own k e).2 hn (h.far k e)⟩
theorem Far.of {b b':Nat}(h:Ba w b A n c l)(hd:∀k,col k≠0→k<b):Far w col b A n c l:=
 ⟨h,fun k e=>Decidable.byContradiction fun hn=>absurd (hd k hn) (by have:=(Bd.blk h k e).1;omega)⟩
def J8g (w:World)(s:PS)(v:Value)(w':World):Prop:=∃(A:Option Addr) (n c:Nat) (L:Option Addr) (m d:Nat) (R:Value) (f:Nat→Value),v=.agg (Yn (.slice A n c) f (.slice L m d) R s)∧Bj w' A n c s.tx∧An w w'
theorem J7r {p:Value}(h:Calls prog 14 #[p] w fun e w'=>∃cs,e=.returned (.agg cs)∧Ea w' w.heap.size cs s∧An w w'):
 Calls prog 14 #[p] w fun e w'=>∃v,e=.returned v∧J8g w s v w':=h.mono fun e w' hh=>by
 obtain⟨cs,rfl,hL,he⟩:=hh;obtain⟨A,n,c,L,m,d,R,f,rfl,hI,_⟩:=hL.lit;exact⟨_,rfl,A,n,c,L,m,d,R,f,rfl,hI,he⟩
theorem M6 {P:Program}{ops:Array Oper}{o:Oper}{a:Act}{K:Act→World→Prop}{Q:Exit→Act→World→Prop}{E:Prop}{ars:Array Operand}{tys:Array TypeId}(hw:Bu o (yielded ops a.tmps)=true)
 (f:FuncId) (args:Array Value) (ho:o.op=.call { callee:=.value (.func f),args:=ars,argTypes:=tys }) (de:(execOp a.eval o).run P w=.ok (.enter f args) w) (R:Value→World→Prop)
 (hc:Calls P f args w fun e w'=>∃v,e=.returned v∧R v w') (h:∀v w',R v w'→K (a.put o.dst v) w'):if Bu o (yielded ops a.tmps)=true then Oper.wp P o a w K Q else E:=by
 rw[if_pos hw];exact I17
theorem J7s (h:∀x∈l,Df x)(hl:l.length≤200):(Em (Hs l)).size≤800:=by
 rw[←F5,Jg (Sf h)];have:=dK l;omega
theorem J7w {W:Nat}(hs:∀x∈l,Df x)(ht:∀k∈l,32≤k∧k≠127)(h1:l.length≠0)(h2:l.length≤200)(hk:L6 W (bU [Em (Hs l)++E6] 1) (Cj (Kx 5 W) (Em (Hs l)++E6))):
 J7q W l (Cj (Kx 5 W) (Em (Hs l)++E6))∧(Cj (Kx 5 W) (Em (Hs l)++E6)).tx=l:=by
 obtain⟨a1,a2,a3,a4,a5,a6⟩:=J8d (W:=W) hs ht h1 h2;have hz:=J7s hs h2;have az:bU [Em (Hs l)++E6] 1≤1000:=by
  show 0+((Em (Hs l)++E6).size+1)≤1000
  exact I160
 obtain⟨T,hT⟩:=hk.inv;exact⟨⟨⟨⟨T,hT.mono az az (Nat.le_refl _)⟩,hk.win,hk.pend⟩,⟨a1,a2,a3⟩,a6,a5⟩,a4⟩
theorem J7p {W:Int}{A B T:Option Addr}{n c m d q z:Nat}{cs:List Cm}(hL:Bj w A n c line)(hn:n≤17592186043904)(hC:Cms w B m d cs)(hT:Bj w T q z ty)(hq:q≤17592186043904):
 Calls prog 7 #[.int .i64 W,.slice A n c,.slice B m d,.slice T q z] w fun e w'=>e=.returned (.bool true)∧An w w':=by
 have HWk:=A6 (sK w);have HL:=A6 hL;have HC:=A6 hC;have HT:=A6 hT;have aq:=Ar (Rd.ncap hC) (Rd.nmax hC);unfold maxLen at aq;clear hL hC hT;go_enter func7,ntmps7
 go_wp2_with fail
 refine HWk.out.mono ?_
 rintro e w1 ⟨rfl,aj⟩;have jl:=A6 aj;have PD:=A6 (kN (HL.out.ext aj) hn);clear aj HWk;go_wp2_with fail
 refine PD.out.mono ?_
 rintro e w2 ⟨t,b,rfl,au,EF⟩;have im:=A6 (jl.out.trans au);have TN:=A6 EF;clear au EF PD jl;cases b with
 |false=>
  go_wp2_with fail
  go_ret
  exact⟨rfl,im.out⟩
 |true=>
 obtain⟨gj,ht⟩:=TN.out (by first|rfl|trivial)
 have AR:=A6 (mL (HL.out.ext im.out));have qN:=A6 gj;have PM:=A6 ht;clear TN gj ht;go_wp2_with fail
 refine AR.out.mono ?_
 rintro e w3 ⟨b2,rfl,rfl,Ib⟩;have PF:=A6 Ib;clear Ib AR;cases b2 with
 |false=>
  go_wp2_with fail
  go_ret
  exact⟨rfl,im.out⟩
 |true=>
 have HHs:=A6 (J8o (v:=8) (HL.out.ext im.out));go_wp2_with fail
 refine HHs.out.mono ?_
 rintro e w4 ⟨⟨b3,rfl,du⟩,ik⟩;have jy:=A6 (im.out.trans ik);have ns:=A6 du;clear du ik HHs im;cases b3 with
 |true=>
  go_wp2_with fail
  go_ret
  exact⟨rfl,jy.out⟩
 |false=>
 by_cases kw:200<n
 case pos=>
  have kl:decide ((200:Int)<(n:Int))=true:=by simp;omega
  go_wp2_with fail
  go_ret
  exact⟨rfl,jy.out⟩
 have jM:decide ((200:Int)<(n:Int))=false:=by simp;omega
 by_cases jx:n=0
 case pos=>
  have kl:((n:Int)==0)=true:=by simp;omega
  go_wp2_with fail
  go_ret
  exact⟨rfl,jy.out⟩
 have qQ:((n:Int)==0)=false:=by simp;omega
 have jh:=HL.out.len;have fg:∀k∈line,32≤k∧k≠127:=fun k hk=>by
  rcases PF.out (by first|rfl|trivial) k hk with h|h
  ·exact absurd (h▸hk) (ns.out (by first|rfl|trivial))
  ·exact h
 have hz:=J7s qN.out (by omega)
 rw[←PM.out]at hz;have j8:L6 W.toNat (bU [t++E6] 1) (Cj (Kx 5 W.toNat) (t++E6))→J7q W.toNat line (Cj (Kx 5 W.toNat) (t++E6))∧(Cj (Kx 5 W.toNat) (t++E6)).tx=line:=by
  rw[PM.out];exact J7w qN.out fg (by omega) (by omega)
 have DD:=A6 j8;have As:(t++E6).size≤1000:=by
  exact I160
 have H1:Hid (∀wq,_):=A6 fun(wq:World)=>rY (most:=5) (W:=W) (yM (n:=1) (ts:=[t++E6]) (Aq.new wq 9 #[.string (t++E6)]) rfl (by decide)) (fun i hi hs=>by
  have e:i=0∨i=1:=by omega
  rcases e with rfl|rfl
  ·exact Nat.zero_le _
  ·show 0+((t++E6).size+1)≤_;omega)
 have qx:=A6 (jy.out.to_alloc (.cells #[.string (t++E6)] 9));have sy:=A6 jh;clear PF ns qN PM fg j8 As jh kw jx;go_wp2_with fail
 refine(H1.out w4).mono ?_
 rintro e w5 ⟨ft,ja⟩;have dv:=A6 (qx.out.trans ft);have TO:=A6 qx.out.hsize;clear ft H1 jy qx;rcases ja with⟨_,_,p,col,v,E,S,rfl,hm,hs,hc,hh⟩|⟨_,rfl⟩
 case inr=>
  go_wp2_with fail
  go_ret
  exact⟨rfl,dv.out⟩
 obtain⟨⟨E1,n1,k1,rfl,_⟩,S1',q1,z1,rfl,_⟩:=hh.evs;rw[J5s]at hm hs;obtain⟨st0,j6⟩:=DD.out hs;have hO:One w w5 col p v (Cj (Kx 5 W.toNat) (t++E6)):=⟨dv.out,hm,fun k hk=>Ar TO.out (hc k hk)⟩
 clear hm hs hc hh DD TO dv hz;generalize Cj (Kx 5 W.toNat) (t++E6)=s0 at*;have HO:=A6 hO;have DD:=A6 st0;have lH:=A6 j6;have HQ:=A6 (J7z hO.l (Jq st0.ok).1 (Jq st0.ok).2 st0.q);clear hO st0 j6 jM qQ;go_wp2_with fail
 refine HQ.out.mono ?_
 rintro e w6 ⟨rfl,gr⟩;have io:=A6 (HO.out.ext gr);have PI:=A6 (Ks io.out.l (Jq DD.out.ok).1 (Jq DD.out.ok).2);clear gr HQ HO;go_wp2_with fail
 refine PI.out.mono ?_
 rintro e w7 ⟨ls,rfl,hL,ni⟩;obtain⟨A4,n4,c4,L4,m4,d4,R4,f4,rfl,hI,_⟩:=hL.lit;have j7:=Xs A4 n4 c4 f4 (.slice L4 m4 d4) R4 s0;have ne:=Xq A4 n4 c4 s0.at_;have jH:=A6 (io.out.ext ni);rw[lH.out]at hI;have HEq:=A6 (Lk hI (HL.out.ext jH.out.x));rw[Q5.2 rfl]at HEq;clear hL ni PI io hI;go_wp2_with fail
 refine HEq.out.mono ?_
 rintro e w8 ⟨rfl,rm⟩;have SS:=A6 (jH.out.ext rm);clear j7 ne rm HEq jH;go_wp2_with fail
 go_loopw [76] (fun s76 wx=>∃(i:Nat) (col:Nat→Nat) (v:SV) (s:PS),i≤m∧s76=.int .i64 i∧Hid (One w wx col p v s)∧Hid (J7q W.toNat line s)) (fun s76 _=>m-(intOf s76).toNat)
 case atStart=>exact⟨0,col,v,s0,by omega,rfl,SS,DD⟩
 case round=>
  clear SS DD lH;obtain⟨i,col,v,s,him,rfl,HO,DD⟩:=hrel;by_cases ae:i<m
  ·obtain⟨ad,x,rfl,hx,c0,c1,c2,c3,c4⟩:=Cms.at_ (Rd.ext HC.out HO.out.x) ae
   obtain⟨f,r,o,vb,g⟩:=x;clear hx
   dsimp only at c0 c1 c2 c3 c4
   go_upto_region 14 with fail
   change Code.wp _ _ _ _ (wr.alloc (.cells #[f,r,o,vb,g] 62));have ak:=Aq.new wr 62 #[.int .i64 f,.int .i64 r,.int .i64 o,.int .i64 vb,.int .i64 g];have lK:=A6 (HO.out.ext (An.alloc wr (.cells #[f,r,o,vb,g] 62)));generalize wr.heap.size=g0 at*;generalize wr.alloc (.cells #[f,r,o,vb,g] 62)=wa at*;clear c0 c1 c2 c3 c4;obtain⟨c0,c1,c2,c3,c4⟩:=(⟨ak.cell 0,ak.cell 1,ak.cell 2,ak.cell 3,ak.cell 4⟩:_∧_∧_∧_∧_);simp only[Ah,Af,Ag]at c0 c1 c2 c3 c4;clear ak;have DJ:=A6 (jR (w0:=w) (f:=f) (r:=r) (o:=o) (vb:=vb) (g:=g) rfl lK.out.l DD.out.ok (by omega) DD.out.q lK.out.x lK.out.bl HT.out hq)
   go_wp2_with fail
   refine DJ.out.mono ?_
   rintro e w9 ⟨t9,b9,col9,v9,s9,N9,rfl,wk,Is,hs9,mS,hP⟩;have Om:=A6 (lK.out.turn wk Is);have HS9:=A6 hs9;have JV:=A6 hP;clear wk Is hs9 mS hP DJ lK c0 c1 c2 c3 c4;cases b9 with
   |false=>
    go_wp2_with fail
    go_ret
    exact⟨rfl,Om.out.x⟩
   |true=>
   have rQ:=A6 (DD.out.chg (JV.out (by first|rfl|trivial)) HS9.out)
   clear JV HS9;go_wp2_with fail
   go_roundw
   case rel=>exact⟨i+1,col9,v9,s9,by omega,by go_num,Om,rQ⟩
   case measure=>simp[intOf];omega
  ·obtain rfl:i=m:=by omega
   have PI:=A6 (Ks HO.out.l (Jq DD.out.ok).1 (Jq DD.out.ok).2);go_wp2_with fail
   refine PI.out.mono ?_
   rintro e w9 ⟨ls,rfl,hL,jK⟩;obtain⟨A5,n5,c5,L5,m5,d5,R5,f5,rfl,_,_⟩:=hL.lit;have j7:=Xs A5 n5 c5 f5 (.slice L5 m5 d5) R5 s;have HL9:=A6 hL;have sY:=A6 jK;clear hL jK PI;go_upto_region 19 with fail
   change Code.wp _ _ _ _ (w9.alloc (.cells #[.slice A5 n5 c5,s.at_] 32));have hx:=An.alloc w9 (.cells #[.slice A5 n5 c5,s.at_] 32);have hb:=Aq.new w9 32 #[.slice A5 n5 c5,.int .i64 s.at_];generalize w9.alloc (.cells #[.slice A5 n5 c5,s.at_] 32)=w10 at*;have oL:wr.heap.size≤w9.heap.size:=sY.out.hsize;generalize w9.heap.size=g9 at*;have tB:=A6 (HO.out.ext (sY.out.trans hx));obtain⟨v0,a0,A6,n6,c6,e0,t1,_⟩:=(HL9.out.ext hx).text;subst e0;have a0:some (Ak A5 n5 c5)=some (.slice A6 n6 c6):=a0;injection a0 with a0;injection a0 with e1 e2 e3;subst e1 e2 e3;have GT:=A6 (Far.of (b':=0) t1 HO.out.l.ses.dom);have tF:=A6 hb;have eY:=A6 HO.out.l.ses.dom;have tJ:=A6 oL;generalize wr.heap.size=g8 at*;have HF:=A6 (Vh (t:=upB) tB.out.l DD.out.ok (by omega) DD.out.q.2.2 (by decide))
   clear hx hb oL j7 HL9 sY HO t1 a0;go_wp2_with fail
   refine HF.out.mono ?_
   rintro e w11 ⟨x11,rfl,col11,v11,E11,n11,k11,F11,m11,j11,rfl,lP,fG,cH,lQ,_,_⟩;have cR:=A6 (tB.out.turn fG cH);have l5:=A6 (GT.out.turn cH);have dY:Aq w11 g9 32 #[.slice A5 n5 c5,.int .i64 s.at_]:=cH.1.blk tF.out fun hM=>absurd (eY.out g9 hM.1) (by have:=tJ.out;omega)
   have Og:col11 g9=0:=Decidable.byContradiction fun hn=>absurd (eY.out g9 (cH.sub g9 tF.out.lt hn)) (by have:=tJ.out;omega)
   have hnt:(Cj s upB).told.length=n11:=(fG.evs lP).choose_spec.2.1;have cQ:=A6 (Au lQ hnt);have dI:=A6 (Au dY Og);have HEq:=A6 (Lk l5.out.own.ints (HL.out.ext cR.out.x));obtain⟨x0,x1⟩:=(⟨dY.cell 0,dY.cell 1⟩:_∧_);simp only[Ah,Af,Ag]at x0 x1;clear fG cH lQ hnt lP dY Og HF tB tF eY tJ GT;by_cases bD:s.tx=line
   ·have N0:=trivial;exact K49
   ·have N1:=trivial;exact K49
end
