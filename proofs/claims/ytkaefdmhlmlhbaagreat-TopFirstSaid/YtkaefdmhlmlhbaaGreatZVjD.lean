/-
  Part ZVjD.
-/
import Derived.Test.YtkaefdmhlmlhbaaGreatZVjB
import Derived.Test.YtkaefdmhlmlhbaaGreatZVjC
set_option maxRecDepth 100000
set_option maxHeartbeats 16000000
set_option linter.unusedVariables false
set_option linter.unusedSimpArgs false
namespace Go.Proofs.YtkaefdmhlmlhbaaGreat
open Go.RowKit
open _root_.Go.Proofs.Tryz
open _root_.And renaming intro→Au
open _root_.Nat renaming le_refl→Aj,le_succ→Cc,le_trans→Ar,lt_of_lt_of_le→Bo,zero_le→B8
open World renaming setCell→Bh
open _root_.Int renaming le_refl→Nf,natCast_nonneg→J7l
open _root_.List renaming getElem_cons_succ→Ab,getElem_cons_zero→Aa,getElem_toArray→Ac,length_drop→Dd,mem_append→D3,mem_singleton→Cw,setIfInBounds_toArray→A7,set_cons_succ→Ae,set_cons_zero→Ad
open Act renaming put→Ao
open AllReadyH renaming cons→Ai,nil→Am
open _root_.Array renaming getElem?_setIfInBounds_ne→Dl,getElem?_setIfInBounds_self→J7m
open Value renaming oneCell'→Bw,slice→Ak
section
variable {s:PS}{K L T p i N:Nat}{l m now:List Int}{cs:Array Value}{w:World}{rl co:Nat→List Int}{col:Nat→Nat}{c:Cm}{h:Hi}{ls:List (List Int)}{b:ByteArray}{v:SV}{at_ md x k:Int}{d:Dn}{A:Option Addr}
structure GOk (s:PS):Prop where
 keys:∃K,∀pt,SOk K { s with part:=pt }
 part:Ew s.part=true
 now:∃N,N≤1000000000∧KOk N s
 mode:s.mode=0∨s.mode=1∨s.mode=2∨s.mode=3
structure VOk (s:PS):Prop where
 line:xP s
 vis:s.vis.length≤1000000000
 row:∃W,aH W s
theorem yO (h:Dm w col p v s)(g:GOk s)(key:Int):
 Calls prog 40 #[.pointer (some ⟨p,0,none⟩),.int .i64 key] w fun e w'=>e=.returned (.tuple #[])∧C6 p w col (Ez s key) w':=by
 have nb:∀{x:Int},key≠x→(key==x)=false:=fun h=>by simpa using h
 obtain⟨⟨K,hK⟩,hp,⟨N,hN,hNk⟩,hm⟩:=g;have ok:SOk K s:=hK s.part;have mb:∀{x:Int},s.mode≠x→(s.mode==x)=false:=fun h=>by simpa using h
 unfold Ez;by_cases h3:key=3
 ·rw[if_pos h3];subst h3
  exact oR h ok.told
 rw[if_neg h3];by_cases dt:s.mode=3
 ·rw[if_pos dt]
  exact iY h ok (nb h3) dt
 rw[if_neg dt];by_cases td:key=13∨key=10
 ·rw[if_pos td]
  exact jA h ok.line.len ok.told td (mb dt)
 rw[if_neg td];by_cases h4:key=4
 ·rw[if_pos h4];subst h4
  by_cases ht:s.tx=[]
  ·rw[if_pos ht]
   exact vC h ok.told ht (mb dt)
  ·rw[if_neg ht]
   exact iZ h ok.line.len ok.told ht (mb dt)
 rw[if_neg h4];by_cases gz:s.mode≠0
 ·rw[if_pos gz]
  exact oQ h ok.line hNk hN ok.told (nb h3) (nb fun e=>td (.inl e)) (nb fun e=>td (.inr e)) (nb h4) (by omega)
 ·rw[if_neg gz]
  exact zX h hK hp (nb h3) (nb fun e=>td (.inl e)) (nb fun e=>td (.inr e)) (nb h4) (Decidable.not_not.1 gz)
noncomputable def E0 (s:PS)(k:Int):PS:=if s.over=true then s else Jo (Ez s k)
noncomputable def Bq (s:PS)(ks:List Int):PS:=ks.foldl E0 s
theorem Ri (s:PS)(ks:List Int)(k:Int):Bq s (ks++[k])=E0 (Bq s ks) k:=by
 unfold Bq;rw[List.foldl_append]
 rfl
theorem Xe (s:PS)(ks ls:List Int):Bq s (ks++ls)=Bq (Bq s ks) ls:=by
 unfold Bq;rw[List.foldl_append]
theorem eI (h:s.over=true):∀ks,Bq s ks=s:=by
 intro ks
 induction ks with
 |nil=>rfl
 |cons k ks ih=>
  have:Bq s (k::ks)=Bq (E0 s k) ks:=rfl;rw[this,show E0 s k=s from if_pos h]
  exact ih
def Ce (s:PS)(pd:List Nat):PS:={ s with pend:=pd,told:=[],vis:=[] }
theorem Dm.fresh (h:Dm w col p v s)(pd:List Nat):
 ∃col',Dm (((w.setCell ⟨p,50,none⟩ (.string (Em pd))).setCell ⟨p,56,none⟩ nl).setCell ⟨p,57,none⟩ nl) col' p { v with told:=nl,vis:=nl } (Ce s pd)∧
  Km w col (((w.setCell ⟨p,50,none⟩ (.string (Em pd))).setCell ⟨p,56,none⟩ nl).setCell ⟨p,57,none⟩ nl) col'∧(∀k,col k=4∨col k=5∨col k=6→col' k=0)∧Gw (fun k=>k=p) w (((w.setCell ⟨p,50,none⟩ (.string (Em pd))).setCell ⟨p,56,none⟩ nl).setCell ⟨p,57,none⟩ nl):=by
 have h7:=h.ses.own;have c:=(((E5.start (An.refl w) h.ses.blk).set 50 (.string (Em pd))).set 56 nl).set 57 nl;have hm:∀c,c≠7→∀k,k<w.heap.size→k=p→col k≠c:=fun c hc k _ e=>by rw[e,h7];exact fun e=>hc e.symm
 have hN:=h.ses.now.turn (col':=col) c.alt (fun k h1 h2=>⟨hm 2 (by decide) k h1 h2,hm 3 (by decide) k h1 h2⟩) fun _ _=>rfl
 have same:∀k x,col k=x→x≠4→x≠5→x≠6→(if col k=4∨col k=5∨col k=6 then 0 else col k)=x:=fun k x e a b c=>by
  rw[if_neg]
  ·exact e
  ·rw[e];exact fun o=>o.elim a fun o=>o.elim b c
 refine⟨fun k=>if col k=4∨col k=5∨col k=6 then 0 else col k,⟨⟨c.to (by kernel_rfl),same p 7 h7 (by decide) (by decide) (by decide),((h.old c.alt).mono fun k _ e=>same k 1 e (by decide) (by decide) (by decide)).imp fun _ h=>⟨h.1,h.2,h.3,h.4,h.5,h.6,h.7,h.8⟩,?_,fun k hk=>?_⟩,⟨none,0,0,[],rfl,Bd.nil _ _ _ _,rfl,nofun,fun M w' ha hk i hi=>absurd hi (Nat.not_lt_zero i)⟩,⟨none,0,0,rfl,Ba.nil _ _,nofun⟩⟩,⟨c.alt.mono fun k _ e=>by rw[e,h7];decide,fun k _ hk e=>hk (by show(if _ then _ else _)=_;rw[e];rfl),fun k _ e=>same k 1 e (by decide) (by decide) (by decide)⟩,(fun k hk=>if_pos hk),c.alt⟩
 ·show S8 _ _ v.now s.now
  revert hN
  generalize v.now=a;generalize s.now=o;intro hN;rcases a with _|a<;>rcases o with _|⟨c,l⟩
  ·trivial
  ·exact hN
  ·exact hN
  ·obtain⟨q,y,rfl,h1,h2,h3,h4⟩:=hN
   exact⟨q,y,rfl,same q 2 h1 (by decide) (by decide) (by decide),h2,h3,fun g hg=>same g 3 (h4 g hg) (by decide) (by decide) (by decide)⟩
 ·have hk:(if col k=4∨col k=5∨col k=6 then 0 else col k)≠0:=hk
  split at hk
  ·exact absurd rfl hk
  ·exact Bo (h.ses.dom k hk) c.alt.size
theorem gX (h:Dm w col p v s)(ho:s.over=true):
 Calls prog 18 #[.pointer (some ⟨p,0,none⟩),.string b] w fun e w'=>e=.returned (.tuple #[(),(),(6:Int)])∧w'=w:=by
 have d55:w.cell? ⟨p,55,none⟩=some (.bool s.over):=h.ses.blk.cell 55;rw[ho]at d55;clear h ho;go_enter func18,ntmps18
 go_wp2_with fail
 go_ret3
 exact⟨rfl,rfl⟩
theorem nD (h:Dm w col p v s)(ho:s.over=false)(hp:aI s.pend)(ae:∀x∈s.pend,x<256)(hs:4096<b.size):
 Calls prog 18 #[.pointer (some ⟨p,0,none⟩),.string b] w fun e w'=>e=.returned (.tuple #[(),(),(2:Int)])∧An w w':=by
 have d55:w.cell? ⟨p,55,none⟩=some (.bool s.over):=h.ses.blk.cell 55;rw[ho]at d55;have d50:w.cell? ⟨p,50,none⟩=some (.string (Em s.pend)):=h.ses.blk.cell 50;have rx:=A6 (vZ (w:=w) hp ae hs);clear h ho hp ae hs;generalize Em s.pend=sp at*;go_enter func18,ntmps18
 go_wp2_with fail
 refine rx.out.mono ?_
 rintro e w1 ⟨rfl,he⟩;have HX:=A6 he;clear he;go_wp2_with fail
 go_ret3
 exact⟨rfl,HX.out⟩
theorem pG {w w2 wr wq:World}{col col2 c8:Nat→Nat}(h:∀k,k<w.heap.size→col k=4∨col k=5∨col k=6→w2.heap[k]? = w.heap[k]? ∧ col2 k=0)(hz:w.heap.size≤w2.heap.size)(t:Km w2 col2 wr c8)(he:An wr wq)
 (k:Nat) (hk:k<w.heap.size) (hc:col k=4∨col k=5∨col k=6):wq.heap[k]? = w.heap[k]? ∧ c8 k=0:=by
 obtain⟨h1,h2⟩:=h k hk hc;have fx:=Bo hk hz;refine⟨(Below.block he k (Bo fx t.1.size)).trans ((t.1.block k fx fun hn=>hn.1 h2).trans h1),Decidable.byContradiction fun hn=>t.2 k fx hn h2⟩
def Fed (p:Nat)(w:World)(col:Nat→Nat)(s':PS)(e:Ending)(w':World):Prop:=
 ∃col' v',e=.returned (.tuple #[v'.told,v'.vis,(0:Int)])∧Dm w' col' p v' s'∧Km w col w' col'∧∀k,k<w.heap.size→col k=4∨col k=5∨col k=6→w'.heap[k]? = w.heap[k]? ∧ col' k=0
theorem Wf (h:Dm w col p v s)(ho:s.over=false)(hp:aI s.pend)(ae:∀x∈s.pend,x<256)(hs:b.size≤4096)
 (ax:∀i,i<(Dh s.pend (Ap b)).out.length→(Bq (Ce s (Dh s.pend (Ap b)).ah) ((Dh s.pend (Ap b)).out.take i)).over=false→
  GOk (Bq (Ce s (Dh s.pend (Ap b)).ah) ((Dh s.pend (Ap b)).out.take i))∧VOk (Ez (Bq (Ce s (Dh s.pend (Ap b)).ah) ((Dh s.pend (Ap b)).out.take i)) (gI (Dh s.pend (Ap b)).out i))):
 Calls prog 18 #[.pointer (some ⟨p,0,none⟩),.string b] w (Fed p w col (Bq (Ce s (Dh s.pend (Ap b)).ah) (Dh s.pend (Ap b)).out)):=by
 have d55:w.cell? ⟨p,55,none⟩=some (.bool s.over):=h.ses.blk.cell 55;rw[ho]at d55;have d50:w.cell? ⟨p,50,none⟩=some (.string (Em s.pend)):=h.ses.blk.cell 50;have rx:=A6 (vY (w:=w) hp ae hs);have H:=A6 h;generalize Dh s.pend (Ap b)=mc at*;obtain⟨sp,YR⟩:∃x,x=Em s.pend:=⟨_,rfl⟩;obtain⟨sq,YS⟩:∃x,x=Em mc.ah:=⟨_,rfl⟩;rw[←YR]at d50 rx;rw[←YS]at rx;obtain⟨s0,gp⟩:∃x,x=Ce s mc.ah:=⟨_,rfl⟩;rw[←gp]at ax ⊢;have HA:=A6 ax;have HQ:=A6 (Au YR (Au YS gp));clear h ho hp ae hs ax YR YS gp;obtain⟨ah,l⟩:=mc;simp only at*;go_enter func18,ntmps18
 go_wp2_with fail
 refine rx.out.mono ?_
 rintro e w1 ⟨O,q,d,rfl,hO,he⟩;obtain⟨dm,nh⟩:=H.out.grow he 1;have hD1:Jd (fun k=>Go.Proofs.YtkaefdmhlmlhbaaGreat.grow col w.heap.size w1.heap.size 1 k=1) w1 fun x=>Ba x 0 O q d l:=
  Jd.own (Bd.lower hO (Nat.zero_le _)) fun g hg=>Jy (Bd.blk hO g hg).1 (Bd.blk hO g hg).2
 have YH:l.length=q:=hO.ints.len;have vu:=Ar hO.ints.ncap hO.ints.nmax;unfold maxLen at vu;have g50:w1.cell? ⟨p,50,none⟩=some (.string (Em s.pend)):=dm.ses.blk.cell 50;have g56:w1.cell? ⟨p,56,none⟩=some v.told:=dm.ses.blk.cell 56;have g57:w1.cell? ⟨p,57,none⟩=some v.vis:=dm.ses.blk.cell 57;have f50:=dm.ses.blk.frozen 50;have f56:=dm.ses.blk.frozen 56;have f57:=dm.ses.blk.frozen 57;rw[←HQ.out.1]at g50;obtain⟨col2,ej,ju,az,wv⟩:=dm.fresh ah;have fx:∀k,k<w.heap.size→col k=4∨col k=5∨col k=6→_=w.heap[k]? ∧ col2 k=0:=fun k hk hc=>
  ⟨(wv.block k (Bo hk he.hsize) (fun e=>by have:=H.out.ses.own;rw[←e]at this;omega)).trans (Below.block he k hk),az k (by rw[Wu hk];exact hc)⟩
 rw[←HQ.out.2.2]at ej;rw[←HQ.out.2.1]at ej ju fx;unfold nl at ej ju fx;have LJ:=A6 fx;have ms:=A6 (hD1.trn ju);have eu:=A6 ej;have CZ:=A6 (nh.trans ju);have hzw:=he.hsize;have CB:=wv.size;rw[←HQ.out.2.1]at CB;unfold nl at CB;have HZW:=A6 (Ar hzw CB);clear dm nh hD1 ej ju d50 d55 he hO rx fx az wv hzw CB;have YT:=A6 YH;clear YH;go_upto_region 7 with fail
 clear g50 g56 g57 f50 f56 f57;generalize Bh (Bh (Bh _ _ _) _ _) _ _=w2 at*;go_wp2_with fail
 go_loopw [41] (fun s41 wx=>∃i:Nat,i≤q∧s41=.int .i64 i∧Hid (C6 p w2 col2 (Bq s0 (l.take i)) wx)) (fun s41 _=>q-(intOf s41).toNat)
 case atStart=>exact⟨0,by omega,rfl,A6 ⟨col2,_,eu.out,Km.refl _ _⟩⟩
 case round=>
  obtain⟨i,hi,rfl,FR⟩:=hrel;obtain⟨c8,v8,nu,oo⟩:=FR.out;by_cases ae:i<q
  ·have lm:=(ms.out.trn oo).here.ints
   obtain⟨ad,e,hc⟩:=lm.at_ (k:=i) ae;subst e;have FM:=hc i ae;have d55:wr.cell? ⟨p,55,none⟩=some (.bool (Bq s0 (l.take i)).over):=nu.ses.blk.cell 55;clear hc lm;cases gy:(Bq s0 (l.take i)).over with
   |true=>
    rw[gy]at d55;have d7:Bq s0 l=Bq s0 (l.take i):=by
     have h1:=Xe s0 (l.take i) (l.drop i);rw[List.take_append_drop]at h1;rw[h1,eI gy]
    rw[←d7]at nu;clear gy d7 FR;exact I1
   |false=>
    rw[gy]at d55;obtain⟨hg,hv⟩:=HA.out i (by rw[YT.out];exact ae) gy
    have OJ:=A6 (yO nu hg (gI l i));have HV:=A6 hv;have LX:=A6 oo;have HN:Hid (Bq s0 (l.take (i+1))=Jo (Ez (Bq s0 (l.take i)) (gI l i))):=A6 (by
     have zm:l.take (i+1)=l.take i++[gI l i]:=by
      rw[List.take_add_one];have VC:i<l.length:=by rw[YT.out];exact ae
      unfold gI;rw[List.getElem?_eq_getElem VC]
      rfl
     rw[zm,Ri];unfold E0;rw[if_neg (by rw[gy];decide)])
    clear nu oo hg hv gy FR;go_wp2_with fail
    refine OJ.out.mono ?_
    rintro e w9 ⟨rfl,col9,v9,wk,Is⟩;obtain⟨W,hW⟩:=HV.out.row;have KW:=A6 (tC wk HV.out.line hW HV.out.vis);have HT9:=A6 Is;clear wk Is hW FM d55;go_wp2_with fail
    refine KW.out.mono ?_
    rintro e w10 ⟨rfl,hd⟩;have H10:Hid (C6 p w2 col2 (Bq s0 (l.take (i+1))) w10):=A6 (by rw[HN.out];exact C6.trans LX.out (C6.trans HT9.out hd))
    clear hd KW OJ;go_wp2_with fail
    go_roundw
    case rel=>exact⟨i+1,by omega,by go_num,H10⟩
    case measure=>simp[intOf];omega
  ·obtain rfl:i=q:=by omega
   have LY:l.take i=l:=List.take_of_length_le (by rw[YT.out];exact Nat.le_refl _)
   rw[LY]at nu;clear LY FR;exact I1
def Rq (x:Int):Prop:=0≤x∧x≤1114111
def G3 (l:List Int):Prop:=∀x∈l,Rq x
theorem Rq.wf (h:Rq x):(Lit.int .i64 x).wf=true:=kK (by have:=h.1;omega) (by have:=h.2;omega)
theorem G3.nil:G3 []:=fun _ h=>by cases h
theorem G3.app {a b:List Int}(ha:G3 a)(hb:G3 b):G3 (a++b):=fun x hx=>(List.mem_append.1 hx).elim (ha x) (hb x)
theorem G3.take (h:G3 l)(n:Nat):G3 (l.take n):=fun x hx=>h x (List.mem_of_mem_take hx)
theorem G3.drop (h:G3 l)(n:Nat):G3 (l.drop n):=fun x hx=>h x (List.mem_of_mem_drop hx)
theorem G3.one (h:Rq x):G3 [x]:=fun y hy=>by rw[List.mem_singleton.1 hy];exact h
theorem Rq.turn (h:Rq x):Rq (Nz x):=by
 obtain⟨h1,h2⟩:=h;unfold Nz Rq;split
 ·omega
 ·split<;>omega
theorem G3.case (h:G3 l)(a k:Nat):G3 (Ry l a k):=by
 unfold Ry;refine((h.take a).app fun x hx=>?_).app (h.drop _)
 obtain⟨y,hy,rfl⟩:=List.mem_map.1 hx;exact((h.drop a).take k y hy).turn
theorem G3.fill (h:G3 l)(a k:Nat)(hx:Rq x):G3 (Rw l a k x):=by
 unfold Rw;exact((h.take a).app fun y hy=>by rw[(List.mem_replicate.1 hy).2];exact hx).app (h.drop _)
theorem G3.rep {x:List Int}(h:G3 x)(n:Nat):G3 (J7 n x):=by
 unfold J7;intro y hy;obtain⟨l,hl,hy⟩:=List.mem_flatten.1 hy;rw[(List.mem_replicate.1 hl).2]at hy;exact h y hy
theorem G3.put (hr:∀i,G3 (rl i)){x:List Int}(hx:G3 x)(i:Nat)(m:Bool)(j:Nat):G3 (Lm rl i m x j):=by
 have hy:G3 (if m=true then rl i++x else x):=by
  split
  ·exact(hr i).app hx
  ·exact hx
 unfold Lm qX;split
 ·exact hy
 ·split
  ·exact hy
  ·exact hr j
theorem G3.got (hr:∀i,G3 (rl i))(k:Int):G3 (Rc rl k):=by
 unfold Rc;split
 ·exact G3.nil
 ·exact hr _
theorem Lu.cha {a:Int}{k2 k3:Int}{f t:Nat}{whole:Bool}{e:List Gp}(h:Lu l a rl k2 k3 f t whole m at_ md co e)(gi:f≤t)(hl:G3 l)(hr:∀i,G3 (rl i)):
 G3 m∧(∀i,G3 (co i))∧(md=0∨md=1):=by
 obtain⟨_,⟨fv,fx⟩,hm⟩:=h;refine⟨?_,fun i=>?_,?_⟩
 ·rcases hm with⟨_,rfl,_⟩|⟨_,rfl,_⟩
  ·exact hl
  ·exact(hl.take f).app (hl.drop t)
 ·rcases Nat.lt_or_ge f t with ae|ku
  ·obtain⟨j,b,_,_,rfl⟩:=fx ae
   exact G3.put hr ((hl.drop f).take _) j b i
  ·rw[fv (by omega)];exact hr i
 ·rcases hm with⟨_,_,h,_⟩|⟨_,_,_,⟨_,_,h⟩|⟨_,h,_⟩⟩
  ·exact .inl h
  ·exact .inr h
  ·exact .inl h
theorem Hy.cha {n a:Nat}{k1 k2 v k5:Int}{e:List Gp}(h:Hy l n a rl k1 k2 v k5 m at_ md e)(hl:G3 l)(hr:∀i,G3 (rl i))(h5:Rq k5):
 G3 m∧(md=0∨md=1∨md=2):=by
 have hp:∀{p:Nat},Kt l n p rl k1 k2 m at_ e→G3 m:=fun hh=>by
  obtain⟨_,rfl,_⟩:=hh;exact((hl.take _).app ((G3.got hr k2).rep _)).app (hl.drop _)
 rcases h with⟨_,h,hm⟩|⟨_,h,hm⟩|⟨_,_,rfl,_,_,hm⟩|⟨_,_,rfl,_,_,hm⟩|⟨rfl,_,h⟩
 ·exact⟨hp h,.inl hm⟩
 ·exact⟨hp h,.inl hm⟩
 ·exact⟨hl.case _ _,.inl hm⟩
 ·exact⟨hl.fill _ _ h5,.inl hm⟩
 ·refine⟨hl,?_⟩
  rcases h with⟨_,_,h⟩|⟨_,_,h⟩|⟨_,_,h⟩|⟨_,_,h⟩|⟨_,_,h⟩
  ·exact .inr (.inl h)
  ·exact .inr (.inl h)
  ·exact .inr (.inl h)
  ·exact .inr (.inl h)
  ·exact .inr (.inr h)
theorem Kz.cha {n a:Nat}{k1 k2 o v k5 fk fa zk za:Int}{ed:List Gp}(h:Kz l n a rl k1 k2 o v k5 fk fa m at_ md zk za co ed)(ha:a≤n-1)(hl:G3 l)(hr:∀i,G3 (rl i))(h5:Rq k5):
 G3 m∧(∀i,G3 (co i))∧(md=0∨md=1∨md=2):=by
 have up:∀{md:Int},md=0∨md=1→md=0∨md=1∨md=2:=fun h=>h.elim .inl fun h=>.inr (.inl h)
 rcases h with⟨_,mk,ma,_,⟨_,_,rfl,rfl,rfl,_⟩|⟨_,f,t,h1,h2⟩⟩|⟨_,_,_,_,rfl,h⟩|⟨_,_,_,_,f,t,whole,h1,h2,_,h3⟩
 ·exact⟨hl,hr,.inl rfl⟩
 ·obtain⟨k1,k2,k3⟩:=h2.cha (h1.bd ha).2.2.1 hl hr
  exact⟨k1,k2,up k3⟩
 ·obtain⟨k1,k3⟩:=h.cha hl hr h5
  exact⟨k1,hr,k3⟩
 ·obtain⟨k1,k2,k3⟩:=h3.cha h1 hl hr
  exact⟨k1,k2,up k3⟩
structure J2l (d:Dn):Prop where
 tx:G3 d.tx
 rl:∀i,G3 (d.rl i)
 len:d.tx.length≤200
 lo:0≤d.at_
 hi:d.at_≤d.tx.length
 md:d.md=0∨d.md=1∨d.md=2
theorem Wx {a fk fa:Int}(h:L2 l rl a fk fa c=some d)(hl:G3 l)(hr:∀i,G3 (rl i))(h5:Rq c.arg)(hn:l.length≤200):J2l d:=by
 obtain⟨hv,ed,h1⟩:=Q6 h;have ha:=Q7 hv.1.2.1 hv.1.2.2;obtain⟨k1,k2,k3⟩:=h1.cha ha hl hr h5;obtain⟨b1,b2,b3,b4,_⟩:=sF h1 rfl hn ha;refine⟨k1,k2,b1,b2,?_,k3⟩
 by_cases hm:d.md=0
 ·have:=b3 hm;omega
 ·exact b4 hm
theorem J1b {a fk fa:Int}(h:L2 l rl a fk fa c=some d)(hn:l.length≤200):d.tx.length≤200:=by
 obtain⟨hv,ed,h1⟩:=Q6 h;exact(sF h1 rfl hn (Q7 hv.1.2.1 hv.1.2.2)).1
theorem vG {md:Int}{a:Nat}{b:Nat}(h:Gy md l a k=some (m,b))(hl:G3 l)(hk:Rq k):G3 m:=by
 unfold Gy at h
 repeat' split at h
 all_goals first
  |(cases h;done)
  |(
   injection h with h;injection h with h1 h2;subst h1
   first
    |exact((hl.take _).app (G3.one hk)).app (hl.drop _)
    |exact((hl.take _).app G3.nil).app (hl.drop _)
    |exact hl)
theorem mV {p:Pt}(hk:Rq k):Rq (Bp p k).c.arg:=by
 have z:Rq 0:=⟨by decide,by decide⟩
 unfold Bp
 repeat' split
 all_goals first
  |exact z
  |exact hk
  |(
   unfold Fr
   repeat' split
   all_goals first
    |exact z
    |exact hk)
structure Uw (h:Hi):Prop where
 lo:1≤h.most
 hi:h.most≤50
 len:(h.lines.length:Int)≤h.most
 at0:0≤h.at_
 at1:h.at_≤h.lines.length
 lines:∀l∈h.lines,G3 l∧l.length≤200
 scratch:G3 h.scratch∧h.scratch.length≤200
 pattern:h.pattern.length≤200
theorem rV (h:i<ls.length):gL ls i∈ls:=by
 unfold gL;exact I142
theorem J4q (h:ls.length≤i):gL ls i=[]:=by
 unfold gL;rw[List.getElem?_eq_none h]
 rfl
theorem Uw.nolong (k:Uw h):¬h.long:=fun⟨i,hi,ae⟩=>by
 have hm:=rV hi;unfold Hi.all at hm hi ae;rcases D3.1 hm with hm|hm
 ·have:=(k.lines _ hm).2;omega
 ·rcases List.mem_cons.1 hm with e|hm
  ·rw[e]at ae;have:=k.scratch.2;omega
  ·rw[Cw.1 hm]at ae;have:=k.pattern;omega
theorem Uw.nobad (k:Uw h):¬h.bad:=fun hb=>by
 have h1:=k.lo;have h2:=k.hi;have h3:=k.len;have h4:=k.at0;have h5:=k.at1;unfold Hi.bad at hb;omega
theorem Uw.gl (k:Uw h)(i:Nat):G3 (gL h.lines i)∧(gL h.lines i).length≤200:=by
 rcases Nat.lt_or_ge i h.lines.length with ae|ku
 ·exact k.lines _ (rV ae)
 ·rw[J4q ku];exact⟨G3.nil,B8 _⟩
theorem Uw.toS (k:Uw h)(hn:G3 now∧now.length≤200):G3 (toS h now)∧(toS h now).length≤200:=by
 unfold Go.Proofs.YtkaefdmhlmlhbaaGreat.toS;split
 ·exact hn
 ·exact k.scratch
theorem Uw.toL (k:Uw h)(hn:G3 now∧now.length≤200)(i:Nat):G3 (toL h now i)∧(toL h now i).length≤200:=by
 unfold Go.Proofs.YtkaefdmhlmlhbaaGreat.toL;split
 ·exact k.toS hn
 ·exact k.gl i
theorem Uw.toH (k:Uw h)(hn:G3 now∧now.length≤200)(hi:i≤h.lines.length):Uw (toH h now i):=
 ⟨k.lo,k.hi,k.len,J7l i,by
  show(i:Int)≤_;have:(i:Int)≤h.lines.length:=by omega
  exact this,k.lines,k.toS hn,k.pattern⟩
theorem Uw.findH (k:Uw h){now p:List Int}(hn:G3 now∧now.length≤200)(hp:p.length≤200)(older:Bool)(hi:i<h.lines.length):Uw (findH h now p older i):=
 ⟨k.lo,k.hi,k.len,J7l i,by
  show(i:Int)≤_;have:(i:Int)≤h.lines.length:=by omega
  exact this,k.lines,k.toS hn,by show(Lb h p).length≤200;unfold Lb;split;exact k.pattern;exact hp⟩
theorem Uw.add (k:Uw h){line:List Int}(hl:G3 line∧line.length≤200):Uw (Pi h line):=by
 have e:Pi h line=rD h line:=by unfold Pi;rw[if_pos ⟨k.nobad,k.nolong,hl.2⟩]
 rw[e];have hm:((Nd h line).length:Int)≤h.most:=by
  unfold Nd;split
  ·exact k.len
  ·unfold kD
   have h1:=k.lo;rw[Dd,List.length_append,List.length_singleton];omega
 refine⟨k.lo,k.hi,hm,J7l _,Nf _,fun l eq=>?_,⟨G3.nil,B8 _⟩,k.pattern⟩
 have eq:l∈Nd h line:=eq;unfold Nd at eq;split at eq
 ·exact k.lines l eq
 ·have:=List.mem_of_mem_drop eq
  rcases D3.1 this with h1|h1
  ·exact k.lines l h1
  ·rw[Cw.1 h1];exact hl
structure mE (K:Nat)(c:Cm)(ks:List Int):Prop where
 arg:Rq c.arg
 keys:∀k∈ks,Rq k∧k≠27
 len:ks.length≤K
theorem mE.mono {K K':Nat}{ks:List Int}(h:mE K c ks)(hk:K≤K'):mE K' c ks:=⟨h.arg,h.keys,Ar h.len hk⟩
structure Ev (K L T:Nat)(s:PS):Prop where
 tx:G3 s.tx
 line:xP s
 rl:∀i,G3 (s.rl i)
 past:s.past.length≤30
 pasts:∀x∈s.past,G3 x.1∧x.1.length≤200∧0≤x.2∧x.2≤x.1.length
 first:G3 s.first∧s.first.length≤200
 hist:Uw s.hi
 ask:s.ask.length≤200
 last:∀c ks,s.last=some (c,ks)→mE L c ks
 now:∀c ks,s.now=some (c,ks)→mE K c ks
 mode:s.mode=0∨s.mode=1∨s.mode=2∨s.mode=3
 idle:s.mode=0∨s.mode=3→s.now=none
 part:Ew s.part=true
 told:s.told.length≤T
theorem Ev.mono {K K' L L' T T':Nat}(h:Ev K L T s)(hk:K≤K')(hl:L≤L')(ht:T≤T'):Ev K' L' T' s:=
 {
  h with
  last:=fun c ks e=>(h.last c ks e).mono hl
  now:=fun c ks e=>(h.now c ks e).mono hk
  told:=Ar h.told ht }
theorem Ev.zero (h:Ev K L T s)(hn:s.now=none):Ev 0 L T s:={ h with now:=fun c ks e=>by rw[hn]at e;cases e }
theorem Ev.full (h:Ev K L T s):G3 s.tx∧s.tx.length≤200:=⟨h.tx,h.line.len⟩
theorem Ev.bell (h:Ev K L T s):Ev K L (T+1) (Ec s):=
 {
  h with
  line:=⟨h.line.len,h.line.lo,h.line.hi⟩
  told:=by show(s.told++[_]).length≤_;have:=h.told;simp;omega }
theorem Ev.part' (h:Ev K L T s){pt:Pt}(hp:Ew pt=true):Ev K L T { s with part:=pt }:=
 {
  h with
  line:=⟨h.line.len,h.line.lo,h.line.hi⟩
  part:=hp }
theorem lA (h:Ev K L T s):∀c ks,s.now.or s.last=some (c,ks)→mE (max K L) c ks:=fun c ks e=>by
 cases hn:s.now with
 |none=>rw[hn]at e;exact(h.last c ks e).mono (Nat.le_max_right _ _)
 |some x=>rw[hn]at e;exact(h.now c ks (by rw[hn];exact e)).mono (Nat.le_max_left _ _)
theorem Ev.leave (h:Ev K L T s):Ev 0 (max K L) T (Pu s):=
 {
  h with
  line:=⟨h.line.len,by show 0≤max 0 (s.at_-1);omega,by show max 0 (s.at_-1)≤(s.tx.length:Int);have:=h.line.hi;have:=h.line.lo;omega⟩
  last:=lA h
  now:=nofun
  idle:=fun _=>rfl
  mode:=.inl rfl }
theorem Ev.typed1 (h:Ev K L T s){key:Int}(hk:Rq key)(tm:key≠27):Ev (K+1) L (T+1) (Cn s key):=by
 unfold Cn;rw[if_neg tm];cases he:Gy s.mode s.tx s.at_.toNat key with
 |none=>exact h.bell.mono (Cc _) (Aj _) (Aj _)
 |some r=>
  obtain⟨m,b⟩:=r;have hb:=Wt he h.line.len (by have:=h.line.hi;omega)
  have h':=h.mono (Cc K) (Aj L) (Cc T);exact {
   h' with
   tx:=vG he h.tx hk
   line:=⟨hb.1,J7l b,by show(b:Int)≤(m.length:Int);omega⟩
   idle:=fun e=>by show s.now.map _=none;rw[h.idle e];rfl
   now:=fun c ks e=>by
    have e:s.now.map (fun x=>(x.1,x.2++[key]))=some (c,ks):=e
    cases hn:s.now with
    |none=>rw[hn]at e;cases e
    |some y=>
     rw[hn]at e;injection e with e;injection e with e1 e2;subst e1 e2;have ho:=h.now y.1 y.2 hn;refine⟨ho.arg,fun k di=>?_,by have:=ho.len;simp;omega⟩
     rcases D3.1 di with h1|h1
     ·exact ho.keys k h1
     ·rw[Cw.1 h1];exact⟨hk,tm⟩ }
theorem Qh (s:PS):Cn s 27=Pu s:=if_pos rfl
theorem Ev.typed (h:Ev K L T s){key:Int}(hk:Rq key):Ev (K+1) (max K L) (T+1) (Cn s key):=by
 by_cases tm:key=27
 ·subst tm
  rw[Qh];exact h.leave.mono (B8 _) (Aj _) (Cc _)
 ·exact(h.typed1 hk tm).mono (Aj _) (Nat.le_max_right _ _) (Aj _)
theorem Ev.keys (h:Ev K L T s):∀{ks:List Int},(∀k∈ks,Rq k∧k≠27)→Ev (K+ks.length) L (T+ks.length) (keysF s ks):=by
 intro ks
 induction ks generalizing s K T with
 |nil=>exact fun _=>h
 |cons k ks ih=>
  intro hk;have fv:=hk k List.mem_cons_self;have h1:=ih (h.typed1 fv.1 fv.2) (fun x hx=>hk x (List.mem_cons_of_mem _ hx))
  have e:keysF s (k::ks)=keysF (Cn s k) ks:=rfl;exact I72
theorem Ev.beg (h:Ev K L T s)(hn:s.now=none)(hl:G3 l∧l.length≤200){md:Int}(hm:md=0∨md=1∨md=2∨md=3):Ev K L T (Yc s l md):=
 {
  h with
  tx:=hl.1
  line:=⟨hl.2,by
   show 0≤cond (md==0) (max 0 ((l.length:Int)-1)) 0
   cases md==0<;>simp only[cond_true,cond_false]<;>omega,by
   show cond (md==0) (max 0 ((l.length:Int)-1)) 0≤(l.length:Int)
   cases md==0<;>simp only[cond_true,cond_false]<;>omega⟩
  first:=hl
  past:=B8 _
  pasts:=fun x hx=>by cases hx
  mode:=hm
  idle:=fun _=>hn
  part:=Mg }
theorem Ev.hist' (h:Ev K L T s){hi:Hi}(hh:Uw hi):Ev K L T { s with hi:=hi }:=
 {
  h with
  line:=⟨h.line.len,h.line.lo,h.line.hi⟩
  hist:=hh }
theorem Ev.moved (h:Ev K L T s)(hn:s.now=none){hi:Hi}(hh:Uw hi)(hl:G3 l∧l.length≤200):Ev K L T (Ps s hi l):=
 (h.hist' hh).beg hn hl (.inl rfl)
theorem Ev.accept (h:Ev K L T s):Ev K L (T+1) (Nt s):=by
 have h1:Ev K L (T+1) { s with hi:=Pi s.hi s.tx,told:=s.told++[(2,s.tx)],now:=none }:=
  {
   h with
   line:=⟨h.line.len,h.line.lo,h.line.hi⟩
   hist:=h.hist.add h.full
   now:=nofun
   idle:=fun _=>rfl
   told:=by show(s.told++[_]).length≤_;have:=h.told;simp;omega }
 exact I136
theorem Ev.brk (h:Ev K L T s):Ev K L (T+1) (Tl s):=by
 have h1:Ev K L (T+1) { s with told:=s.told++[(3,[])],now:=none,hi:=⟨s.hi.lines,s.hi.most,(s.hi.lines.length:Int),[],s.hi.pattern,s.hi.older⟩ }:=
  {
   h with
   line:=⟨h.line.len,h.line.lo,h.line.hi⟩
   hist:=⟨h.hist.lo,h.hist.hi,h.hist.len,J7l _,Nf _,h.hist.lines,⟨G3.nil,B8 _⟩,h.hist.pattern⟩
   now:=nofun
   idle:=fun _=>rfl
   told:=by show(s.told++[_]).length≤_;have:=h.told;simp;omega }
 exact I136
theorem J4p {l:List (List Int×Int)}(h:i<l.length):gP l i∈l:=by
 unfold gP;exact I142
theorem Ev.undone (h:Ev K L T s):Ev K L (T+1) (Gm s):=by
 unfold Gm;split
 ·exact h.bell
 ·rename_i h0
  have h':=h.mono (Aj K) (Aj L) (Cc T);have hg:=h.pasts _ (J4p (show s.past.length-1<s.past.length by omega))
  exact { h' with
   tx:=hg.1
   line:=⟨hg.2.1,hg.2.2.1,hg.2.2.2⟩
   past:=by show(s.past.take _).length≤30;rw[List.length_take];have:=h.past;omega
   pasts:=fun x hx=>h.pasts x (List.mem_of_mem_take hx) }
theorem Ev.save (h:Ev K L T s):Ev K L T (Pl s):=
 {
  h with
  line:=⟨h.line.len,h.line.lo,h.line.hi⟩
  past:=by show((s.past++[(s.tx,s.at_)]).drop _).length≤30;rw[Dd];simp;omega
  pasts:=fun x hx=>by
   have:=List.mem_of_mem_drop hx;rcases D3.1 this with h1|h1
   ·exact h.pasts x h1
   ·rw[Cw.1 h1];exact⟨h.tx,h.line.len,h.line.lo,h.line.hi⟩ }
theorem Ev.first0 (h:Ev K L T s):Ev K L (T+1) (J4 s):=by
 unfold J4;cases Uv s.tx s.first with
 |true=>exact h.bell
 |false=>
  have h':=h.save.mono (Aj K) (Aj L) (Cc T);exact { h' with
   tx:=h.first.1
   line:=⟨h.first.2,Nf 0,J7l _⟩ }
theorem Ev.does (h:Ev 0 L T s)(hd:J2l d)(hc:Rq c.arg)(hn:s.now=none):Ev 0 L T (Hq s c d):=by
 obtain⟨s1,jo⟩:∃x,x=Fe s c:=⟨_,rfl⟩;have h1:Ev 0 L T { s1 with mode:=1 }:=by
  rw[jo];unfold Fe;split
  ·have h2:=h.save
   exact { h2 with
    line:=⟨h2.line.len,h2.line.lo,h2.line.hi⟩
    mode:=.inr (.inl rfl)
    idle:=fun e=>by rcases e with e|e<;>cases e
    now:=fun c' ks e=>by
     injection e with e;injection e with e1 e2;subst e1 e2;exact⟨hc,(fun k hk=>by cases hk),B8 _⟩ }
  ·exact { h with
    line:=⟨h.line.len,h.line.lo,h.line.hi⟩
    mode:=.inr (.inl rfl)
    idle:=fun _=>hn }
 unfold Hq L3;rw[←jo];split
 ·exact { h1 with
   tx:=hd.tx
   line:=⟨hd.len,hd.lo,hd.hi⟩
   rl:=hd.rl
   last:=fun c ks e=>(lA h1 c ks e).mono (by omega)
   mode:=by rename_i e;exact .inl e
   idle:=fun _=>rfl
   now:=nofun }
 ·rename_i ai
  have ai:d.md≠0:=ai;have hm:=hd.md;exact { h1 with
   tx:=hd.tx
   line:=⟨hd.len,hd.lo,hd.hi⟩
   rl:=hd.rl
   mode:=by show d.md=0∨d.md=1∨d.md=2∨d.md=3;omega
   idle:=fun e=>by
    have e:d.md=0∨d.md=3:=e;omega }
theorem Ev.doS (h:Ev 0 L T s)(hn:s.now=none)(hc:Rq c.arg):Ev 0 L (T+1) (doS s c):=by
 unfold Go.Proofs.YtkaefdmhlmlhbaaGreat.doS;cases he:L2 s.tx s.rl s.at_ s.fk s.fa c with
 |none=>exact h.bell
 |some d=>exact(h.does (Wx he h.tx h.rl hc h.line.len) hc hn).mono (Aj _) (Aj _) (Cc _)
theorem Ev.dot (h:Ev 0 L T s)(hn:s.now=none){n:Int}{ks:List Int}(hl:s.last=some (c,ks))(he:L2 s.tx s.rl s.at_ s.fk s.fa (Cf c n)=some d):Ev 0 L T (Hq s (Cf c n) d):=by
 have hc:=h.last c ks hl;have CE:Rq (Cf c n).arg:=by unfold Cf;split<;>exact hc.arg
 exact h.does (Wx he h.tx h.rl CE h.line.len) CE hn
theorem Ev.again (h:Ev 0 L T s)(hn:s.now=none)(n:Int):Ev 0 L (T+L+1) (Dv s n):=by
 unfold Dv;cases hl:s.last with
 |none=>exact h.bell.mono (by omega) (by omega) (by omega)
 |some x=>
  obtain⟨c,ks⟩:=x;have hc:=h.last c ks hl;simp only;cases he:L2 s.tx s.rl s.at_ s.fk s.fa (Cf c n)with
  |none=>exact h.bell.mono (by omega) (by omega) (by omega)
  |some d=>
   have h1:=h.dot hn hl he;simp only;split
   ·exact h1.mono (by omega) (by omega) (by omega)
   ·have h2:=h1.keys (ks:=ks) hc.keys
    have:=hc.len;rw[Qh];exact h2.leave.mono (by omega) (by omega) (by omega)
theorem Ev.up (h:Ev 0 L T s)(hn:s.now=none)(k:Int):Ev 0 L (T+1) (lV s k):=by
 unfold lV;split
 ·rename_i hg
  exact(h.moved hn (h.hist.toH h.full (by have:=h.hist.at0;have:=h.hist.at1;omega)) (h.hist.toL h.full _)).mono (Aj _) (Aj _) (Cc _)
 ·exact h.bell
theorem Ev.down (h:Ev 0 L T s)(hn:s.now=none)(k:Int):Ev 0 L (T+1) (Nc s k):=by
 unfold Nc;split
 ·rename_i hg
  exact(h.moved hn (h.hist.toH h.full (by have:=hg.2;have:=h.hist.at0;omega)) (h.hist.toL h.full _)).mono (Aj _) (Aj _) (Cc _)
 ·exact h.bell
theorem Ev.jump (h:Ev 0 L T s)(hn:s.now=none)(k:Int):Ev 0 L (T+1) (Na s k):=by
 unfold Na;split
 ·rename_i hg
  exact(h.moved hn (h.hist.toH h.full (by have:=hg.2;have:=hg.1.2.2.2;unfold Ru;omega)) (h.hist.toL h.full _)).mono (Aj _) (Aj _) (Cc _)
 ·exact h.bell
theorem Ev.find (h:Ev 0 L T s)(hn:s.now=none)(pat:List Int)(older keep:Bool):Ev 0 L (T+1) (Fs s pat older keep):=by
 unfold Fs;split
 ·rename_i hx
  have hs:=hx.choose_spec;exact(h.moved hn (h.hist.findH h.full hs.1.2.1 keep hs.2) (h.hist.toL h.full _)).mono (Aj _) (Aj _) (Cc _)
 ·exact h.bell
theorem Ev.asks (h:Ev 0 L T s)(hn:s.now=none)(older:Bool):Ev 0 L T (mB s older):=
 {
  h with
  line:=⟨h.line.len,h.line.lo,h.line.hi⟩
  ask:=B8 _
  mode:=.inr (.inr (.inr rfl))
  idle:=fun _=>hn }
theorem Ev.command (h:Ev 0 L T s)(hn:s.now=none)(hc:Rq c.arg):Ev 0 L (T+L+1) (Di s c):=by
 unfold Di
 repeat' split
 all_goals first
  |exact(h.doS hn hc).mono (by omega) (by omega) (by omega)
  |exact h.undone.mono (by omega) (by omega) (by omega)
  |exact h.first0.mono (by omega) (by omega) (by omega)
  |exact h.again hn _
  |exact(h.up hn _).mono (by omega) (by omega) (by omega)
  |exact(h.down hn _).mono (by omega) (by omega) (by omega)
  |exact(h.jump hn _).mono (by omega) (by omega) (by omega)
  |exact(h.find hn _ _ _).mono (by omega) (by omega) (by omega)
  |exact(h.asks hn _).mono (by omega) (by omega) (by omega)
theorem Ev.calm (h:Ev K L T s)(hn:s.now=none):Ev K L T { s with mode:=0 }:=
 {
  h with
  line:=⟨h.line.len,h.line.lo,h.line.hi⟩
  mode:=.inl rfl
  idle:=fun _=>hn }
theorem Ev.asked (h:Ev 0 L T s)(hn:s.now=none)(key:Int):Ev 0 L (T+1) (Mr s key):=by
 unfold Mr;have hT:=h.mono (Aj 0) (Aj L) (Cc T);split
 ·exact(h.calm hn).find hn _ _ _
 split
 ·exact hT.calm hn
 split
 ·split
  ·exact hT.calm hn
  ·exact { hT with
    line:=⟨h.line.len,h.line.lo,h.line.hi⟩
    ask:=by show s.ask.dropLast.length≤200;have:=h.ask;rw[List.length_dropLast];omega }
 split
 ·exact h.bell
 ·rename_i hk
  exact { hT with
   line:=⟨h.line.len,h.line.lo,h.line.hi⟩
   ask:=by
    show(s.ask++[key]).length≤200
    have:=h.ask;have:s.ask.length≠200:=fun e=>hk (.inr e)
    simp;omega }
theorem Ev.key (h:Ev N N T s){key:Int}(hk:Rq key):Ev (N+1) (N+1) (T+N+1) (Ez s key):=by
 unfold Ez;have sd:max N N=N:=Nat.max_self N;split
 ·exact h.brk.mono (by omega) (by omega) (by omega)
 split
 ·rename_i hm
  have hn:=h.idle (.inr hm);exact((h.zero hn).asked hn key).mono (by omega) (by omega) (by omega)
 split
 ·exact h.accept.mono (by omega) (by omega) (by omega)
 split
 ·split
  ·exact(h.mono (Aj _) (Aj _) (Aj _) |> fun h=>({ h with
    line:=⟨h.line.len,h.line.lo,h.line.hi⟩
    told:=by show(s.told++[_]).length≤T+N+1;have:=h.told;simp;omega }:Ev N N (T+N+1) { s with told:=s.told++[(4,[])],over:=true })).mono (by omega) (by omega) (by omega)
  ·exact h.bell.mono (by omega) (by omega) (by omega)
 split
 ·exact(h.typed hk).mono (by omega) (by omega) (by omega)
 ·rename_i dt _ _ gz
  have gz:s.mode=0:=Decidable.not_not.1 gz;have hn:=h.idle (.inl gz);have h0:=h.zero hn;have hp:=(Kk (k:=key) h.part).1;unfold Pk;split
  ·exact((h0.part' hp).command hn (mV hk)).mono (by omega) (by omega) (by omega)
  split
  ·exact((h0.part' hp).bell).mono (by omega) (by omega) (by omega)
  ·exact(h0.part' hp).mono (by omega) (by omega) (by omega)
theorem J0z (hn:KOk N s)(ht:s.told.length≤T)(hd:J2l d)(hm:(Hq s c d).mode≠0):xO N T (Hq s c d):=by
 have dw:d.md≠0:=fun e=>by
  apply hm
  unfold Hq L3;rw[if_pos (show(Gl (Fe s c) d).mode=0 from e)]
  exact e
 have e:Hq s c d=Gl (Fe s c) d:=by unfold Hq L3;rw[if_neg (show ¬(Gl (Fe s c) d).mode=0 from dw)]
 rw[e];have hk:KOk N (Fe s c)∧(Fe s c).told.length≤T:=by
  unfold Fe;split
  ·exact⟨fun x hx=>by injection hx with hx;rw[←hx];exact B8 _,ht⟩
  ·exact⟨hn,ht⟩
 have:=hd.md;exact⟨⟨hd.len,hd.lo,hd.hi⟩,by show d.md=1∨d.md=2;omega,hk.1,hk.2⟩
theorem Ev.gok (h:Ev N N T s)(hN:N≤2000000)(hT:T≤400000000000):GOk s:=by
 have hk:KOk N s:=fun x hx=>(h.now x.1 x.2 hx).len
 refine⟨⟨N,fun pt=>⟨fun x hx=>(h.tx x hx).wf,⟨h.line.len,h.line.lo,h.line.hi⟩,h.past,h.first.2,?_,fun k=>?_,h.ask,fun c d hd=>?_,fun n c ks d hl hd dw=>?_,fun c ks hl=>?_,hN⟩⟩,h.part,⟨N,by omega,hk⟩,h.mode⟩
 ·show s.told.length≤_;have:=h.told;omega
 ·exact Ar (h.hist.toL h.full k).2 (by decide)
 ·exact Ar (J1b hd h.line.len) (by decide)
 ·have hc:=h.last c ks hl
  have CE:Rq (Cf c n).arg:=by unfold Cf;split<;>exact hc.arg
  exact J0z hk (by show s.told.length≤_;have:=h.told;omega) (Wx hd h.tx h.rl CE h.line.len) dw
 ·have:=h.last c ks hl
  exact⟨fun k hk=>(this.keys k hk).2,by have:=this.len;omega⟩
theorem aH.same {W:Nat}{s s':PS}(h:aH W s)(h1:s'.width=s.width)(h2:s'.off=s.off)(h3:s'.row=s.row)(h4:s'.rat=s.rat):aH W s':=
 ⟨h1.trans h.width,h.lo,h.hi,by rw[h2];exact h.off,by rw[h3,h4];exact h.row,by rw[h3];exact h.len⟩
def fE (s:PS):Int×Int×List Int×Int×List Int×List Nat:=(s.width,s.off,s.row,s.rat,s.vis,s.pend)
theorem Vx:fE (Cn s k)=fE s:=by
 unfold Cn;split
 ·rfl
 ·cases Gy s.mode s.tx s.at_.toNat k<;>rfl
theorem zU:∀{ks:List Int} {s:PS},fE (keysF s ks)=fE s:=by
 intro ks
 induction ks with
 |nil=>intro s;rfl
 |cons k ks ih=>
  intro s;have e:keysF s (k::ks)=keysF (Cn s k) ks:=rfl;rw[e,ih,Vx]
theorem fW:fE (Hq s c d)=fE s:=by
 unfold Hq L3 Fe
 repeat' split
 all_goals rfl
theorem sB:fE (doS s c)=fE s:=by
 unfold doS;cases L2 s.tx s.rl s.at_ s.fk s.fa c with
 |none=>rfl
 |some d=>exact fW
theorem lF {pat:List Int}{a b:Bool}:fE (Fs s pat a b)=fE s:=by
 unfold Fs;split<;>rfl
theorem jO:fE (Di s c)=fE s:=by
 unfold Di;split
 ·exact sB
 split
 ·unfold Gm;split<;>rfl
 split
 ·unfold J4;cases Uv s.tx s.first<;>rfl
 split
 ·unfold Dv
  cases s.last with
  |none=>rfl
  |some x=>
   obtain⟨c',ks⟩:=x;simp only;cases L2 s.tx s.rl s.at_ s.fk s.fa (Cf c' c.count)with
   |none=>rfl
   |some d=>
    simp only;split
    ·exact fW
    ·rw[Vx,zU,fW]
 split
 ·unfold lV;split<;>rfl
 split
 ·unfold Nc;split<;>rfl
 split
 ·unfold Na;split<;>rfl
 split
 ·exact lF
 split
 ·rfl
 ·exact sB
theorem rS:fE (Ez s k)=fE s:=by
 unfold Ez;split
 ·rfl
 split
 ·unfold Mr
  split
  ·exact lF (s:={ s with mode:=0 })
  repeat' split
  all_goals rfl
 split
 ·rfl
 split
 ·split<;>rfl
 split
 ·exact Vx
 ·unfold Pk
  split
  ·exact jO (s:={ s with part:=(Bp s.part k).p })
  split<;>rfl
theorem jI {P:Program}{o:Oper}{a:Act}(t:TypeId)(parts:Array (Nat×Operand))(ho:o.op=.build t parts)(cells:Array Value)
 (hf:P.built t (parts.map fun(i,x)=>(i,a.eval x)).toList=some cells):(execOp a.eval o).run P w=.ok (.value (.agg cells)) w:=by
 unfold execOp;simp only[ho,Sem.run_bind,run_build w t _ cells hf,Result.andThen_ok,Sem.run_pure]
def Kc (A:Option Addr)(n c:Nat)(B:Option Addr)(m d h:Nat)(s:PS):Array Value:=#[.slice A n c,.int .i64 s.at_,.int .i64 s.mode,.int .i64 s.part.first,.int .i64 s.part.reg,.int .i64 s.part.op,.int .i64 s.part.second,.int .i64 s.part.wait,.int .i64 s.fk,.int .i64 s.fa,.slice none 0 0,.slice none 0 0,.slice none 0 0,.slice none 0 0,.slice none 0 0,.slice none 0 0,.slice none 0 0,.slice none 0 0,.slice none 0 0,.slice none 0 0,.slice none 0 0,.slice none 0 0,.slice none 0 0,.slice none 0 0,.slice none 0 0,.slice none 0 0,.slice none 0 0,.slice none 0 0,.slice none 0 0,.slice none 0 0,.slice none 0 0,.slice none 0 0,.slice none 0 0,.slice none 0 0,.slice none 0 0,.slice none 0 0,.slice none 0 0,.int .i64 (h:Int),.slice none 0 0,.int .i64 0,.bool s.over,.slice B m d,.int .i64 s.rat,.int .i64 s.off]
def Dx:Array Value:=#[.slice none 0 0,.int .i64 0,.int .i64 0,.int .i64 0,.int .i64 0,.int .i64 0,.int .i64 0,.int .i64 0,.int .i64 0,.int .i64 0,.slice none 0 0,.slice none 0 0,.slice none 0 0,.slice none 0 0,.slice none 0 0,.slice none 0 0,.slice none 0 0,.slice none 0 0,.slice none 0 0,.slice none 0 0,.slice none 0 0,.slice none 0 0,.slice none 0 0,.slice none 0 0,.slice none 0 0,.slice none 0 0,.slice none 0 0,.slice none 0 0,.slice none 0 0,.slice none 0 0,.slice none 0 0,.slice none 0 0,.slice none 0 0,.slice none 0 0,.slice none 0 0,.slice none 0 0,.slice none 0 0,.int .i64 0,.slice none 0 0,.int .i64 0,.bool false,.slice none 0 0,.int .i64 0,.int .i64 0]
structure Ea (w:World)(b:Nat)(cs:Array Value)(s:PS):Prop where
 size:cs.size=44
 text:∃v,cs[0]? = some v∧Bl w b v s.tx
 at_:cs[1]? = some (.int .i64 s.at_)
 mode:cs[2]? = some (.int .i64 s.mode)
 part:cs[3]? = some (.int .i64 s.part.first)∧cs[4]? = some (.int .i64 s.part.reg)∧cs[5]? = some (.int .i64 s.part.op)∧cs[6]? = some (.int .i64 s.part.second)∧cs[7]? = some (.int .i64 s.part.wait)
 find:cs[8]? = some (.int .i64 s.fk)∧cs[9]? = some (.int .i64 s.fa)
 regs:∀i,i<27→∃v,cs[10+i]? = some v∧Bl w b v (s.rl i)
 past:cs[37]? = some (.int .i64 (s.past.length:Int))
 lines:∃A n c,cs[38]? = some (.slice A n c)∧Hn w b A n c s.hi.lines
 where_:cs[39]? = some (.int .i64 s.hi.at_)
 over:cs[40]? = some (.bool s.over)
 row:∃v,cs[41]? = some v∧Bl w b v s.row
 rat:cs[42]? = some (.int .i64 s.rat)
 off:cs[43]? = some (.int .i64 s.off)
theorem oI (A:Option Addr)(n c:Nat)(B:Option Addr)(m d h:Nat)(s:PS):(Kc A n c B m d h s).all (·.oneCell')=true:=by unfold Kc;simp[Bw]
theorem Xj {base e z n c g t:Nat}{xs:List Value}(h:Bd w base e z A n c xs)(hb:Aq w g t cs)(ai:t≠e)(us:Array Value):Bd (w.setRow g us) base e z A n c xs:=
 Bd.same h fun k hk=>Go.setRow_other w g k us (fun e=>Pq h hb ai (by rw[hk,e]))
theorem tH (v:SV)(s:PS)(i:Nat)(hi:i<27):(Nn v s)[3+i]? = some (v.r i):=by
 exact I5
theorem yU (v:SV)(s:PS)(j:Nat)(x:Value)(h:(Mz v.r)[j]? = some x):(Nn v s)[3+j]? = some x:=by
 have hj:j<27:=by
  rcases Nat.lt_or_ge j 27 with h1|h1
  ·exact h1
  ·rw[Array.getElem?_eq_none (show(Mz v.r).size≤j from h1)]at h;cases h
 rw[Qk v.r j hj]at h;rw[tH v s j hj];exact h
theorem Y5 {i n c:Nat}(hi:i<27)(hv:cs[i]? = some (.slice A n c))(u:World):
 (Instr.index 38 (.agg cs) (.int .i64 (i:Int))).run prog u=.ok (.slice A n c) u:=by
 have hu:prog.underlying 38=some (.array 27 25):=by kernel_rfl
 have hz:∀u,(sizeOf 25).run prog u=.ok 1 u:=fun u=>by kernel_rfl
 have h1:(0:Int)≤(i:Int)∧(i:Int)<(27:Nat):=by omega
 have h2:(i:Int)<27:=by omega
 have hg:∀u,(isAgg 25).run prog u=.ok false u:=fun u=>by kernel_rfl
 have hp:∀u,(part 25 cs i).run prog u=.ok (.slice A n c) u:=fun u=>by
  unfold part;simp[hg,hv]
 simp[Instr.index,run_underlying hu,asIntOf,h1,h2,hz,hp,hi,hv,go_sem]
theorem oH (A:Option Addr)(n c:Nat)(B:Option Addr)(m d h:Nat)(s:PS)(i:Nat)(hi:i<27):(Kc A n c B m d h s)[10+i]? = some (.slice none 0 0):=by
 exact I5
theorem Sd {b g i t:Nat}{y u:Value}(h:Bl w b y l)(hb:Aq w g t cs)(ai:t≠3):Bl (w.setCell ⟨g,i,none⟩ u) b y l:=by
 obtain⟨A,n,c,rfl,h1,h2,h3⟩:=h;exact⟨A,n,c,rfl,kR h1 hb ai i u,h2,h3⟩
theorem yV {w w':World}{b m g:Nat}{y:Value}(h:Bl w b y l)(hs:w.heap.size≤m)(hg:y.ownBlock≠some g)(hl:∀k,k<m→k≠g→w'.heap[k]? = w.heap[k]?):Bl w' b y l:=by
 obtain⟨A,n,c,rfl,h1,h2,h3⟩:=h;exact⟨A,n,c,rfl,Bd.same h1 fun k hk=>hl k (Nat.lt_of_lt_of_le (Bd.blk h1 k hk).2 hs) (fun e=>hg (e▸hk)),h2,h3⟩
theorem fT {b g t:Nat}{y:Value}(h:Bl w b y l)(hb:Aq w g t cs)(ai:t≠3):y.ownBlock≠some g:=by
 obtain⟨A,n,c,rfl,h1,_⟩:=h;exact Pq h1 hb ai
theorem Ea.one {b:Nat}(h:Ea w b cs s):cs.all (·.oneCell')=true:=by
 have hr:∀{v:Value} {l:List Int},Bl w b v l→v.oneCell'=true:=fun⟨_,_,_,e,_⟩=>by rw[e];rfl
 rw[Array.all_eq_true];intro j hj;rw[h.size]at hj;have key:∀{x:Value},cs[j]? = some x→x.oneCell'=true→(cs[j]).oneCell'=true:=fun {x} h1 h2=>by
  rw[Array.getElem?_eq_getElem (by rw[h.size];exact hj)]at h1
  injection h1 with h1;rw[h1];exact h2
 by_cases ei:10≤j∧j<37
 ·obtain⟨v,h1,h2⟩:=h.regs (j-10) (by omega)
  rw[show 10+(j-10)=j by omega]at h1
  exact key h1 (hr h2)
 ·obtain⟨v0,a0,b0⟩:=h.text
  obtain⟨v1,a1,b1⟩:=h.row;obtain⟨A,n,c,a2,_⟩:=h.lines;obtain⟨p3,p4,p5,p6,p7⟩:=h.part;obtain⟨f8,f9⟩:=h.find;have hc:j=0∨j=1∨j=2∨j=3∨j=4∨j=5∨j=6∨j=7∨j=8∨j=9∨j=37∨j=38∨j=39∨j=40∨j=41∨j=42∨j=43:=by omega
  rcases hc with rfl|rfl|rfl|rfl|rfl|rfl|rfl|rfl|rfl|rfl|rfl|rfl|rfl|rfl|rfl|rfl|rfl
  ·exact key a0 (hr b0)
  ·exact key h.at_ rfl
  ·exact key h.mode rfl
  ·exact key p3 rfl
  ·exact key p4 rfl
  ·exact key p5 rfl
  ·exact key p6 rfl
  ·exact key p7 rfl
  ·exact key f8 rfl
  ·exact key f9 rfl
  ·exact key h.past rfl
  ·exact key a2 rfl
  ·exact key h.where_ rfl
  ·exact key h.over rfl
  ·exact key a1 (hr b1)
  ·exact key h.rat rfl
  ·exact key h.off rfl
theorem Jh (h:cs.size=44):(prog.info? 43).map (·.size)=some cs.size:=by rw[h];kernel_rfl
theorem Ea.setRow {b g:Nat}(h:Ea w b cs s)(hg:g<b)(us:Array Value):Ea (w.setRow g us) b cs s:=
 {
  h with
  text:=let ⟨v,h1,h2⟩:=h.text;⟨v,h1,h2.setRow hg us⟩
  regs:=fun i hi=>let ⟨v,h1,h2⟩:=h.regs i hi;⟨v,h1,h2.setRow hg us⟩
  lines:=let ⟨A,n,c,h1,h2⟩:=h.lines;⟨A,n,c,h1,h2.setRow hg us⟩
  row:=let ⟨v,h1,h2⟩:=h.row;⟨v,h1,h2.setRow hg us⟩ }
theorem Ea.lower {b b':Nat}(h:Ea w b cs s)(hb:b'≤b):Ea w b' cs s:=
 {
  h with
  text:=let ⟨v,h1,h2⟩:=h.text;⟨v,h1,h2.lower hb⟩
  regs:=fun i hi=>let ⟨v,h1,h2⟩:=h.regs i hi;⟨v,h1,h2.lower hb⟩
  lines:=let ⟨A,n,c,h1,h2⟩:=h.lines;⟨A,n,c,h1,h2.lower hb⟩
  row:=let ⟨v,h1,h2⟩:=h.row;⟨v,h1,h2.lower hb⟩ }
theorem Ea.ext {w w':World}{b:Nat}(h:Ea w b cs s)(he:An w w'):Ea w' b cs s:=
 {
  h with
  text:=let ⟨v,h1,h2⟩:=h.text;⟨v,h1,h2.ext he⟩
  regs:=fun i hi=>let ⟨v,h1,h2⟩:=h.regs i hi;⟨v,h1,h2.ext he⟩
  lines:=let ⟨A,n,c,h1,h2⟩:=h.lines;⟨A,n,c,h1,h2.ext he⟩
  row:=let ⟨v,h1,h2⟩:=h.row;⟨v,h1,h2.ext he⟩ }
theorem Ks (h:Dm w col p v s)(hl:s.tx.length≤200)(hh:s.hi.lines.length≤1000):
 Calls prog 14 #[.pointer (some ⟨p,0,none⟩)] w fun e w'=>∃cs,e=.returned (.agg cs)∧Ea w' w.heap.size cs s∧An w w':=by
 obtain⟨i0,hi,bm,bz,az⟩:=info_parts Ns;have hd:=h.ses.dat.here;obtain⟨A8,n8,c8,xs8,OF,_,YL,_⟩:=hd.past;obtain⟨A9,n9,k9,mv,lf,qd,As⟩:=hd.row;have hx:=An.alloc w (.cells Dx 43);have ak:=Aq.new w 43 Dx;have LR:Hid (∀wq,An w wq→Calls prog 34 #[.pointer (some ⟨p,0,none⟩)] wq fun e w'=>∃u,e=.returned u∧(∃A n c,u=.agg #[.slice A n c,s.at_]∧Ba w' wq.heap.size A n c s.tx)∧An wq w'):=
  A6 fun wq he=>Ve (h.ext he) (by omega)
 have GI:Hid (∀wq,An w wq→Calls prog 35 #[.slice A9 n9 k9] wq fun e w'=>∃u,e=.returned u∧(∃B d,u=.slice B n9 d∧Ba w' wq.heap.size B n9 d s.row)∧An wq w'):=
  A6 fun wq he=>(Dj (lf.ints.ext he) qd As).mono fun e w' ⟨B,d,h1,h2,_,h4⟩=>⟨_,h1,⟨B,d,rfl,h2⟩,h4⟩
 have HP:=A6 (fun wq (he:An w wq)=>h.ses.blk.ext he)
 have HV:=A6 (Au OF mv);have H:=A6 h;clear h hd OF mv lf qd;obtain⟨Wa,TI⟩:∃x,x=w.alloc (.cells Dx 43):=⟨_,rfl⟩;rw[←TI]at hx ak;have HWS:Hid (w.heap.size+1=Wa.drew.heap.size):=A6 (by rw[TI];simp[World.drew])
 have HWA:=A6 TI;clear TI;go_enter func14,ntmps14
 go_upto_region 1 with fail
 change Code.wp _ _ _ _ (w.alloc (.cells Dx 43));rw[←HWA.out];have fj:=hx.to_drew;have nz:Aq Wa.drew w.heap.size 43 Dx:=ak;clear HWA;refine wp_region_held_drew (S:=fun w'=>An w w'∧Aq w' w.heap.size 43 Dx) (by kernel_rfl) ⟨fj,nz⟩ (fun hS=>?_)
 clear hx ak fj nz;refine Bf (i:=0) (v:=some p) rfl hS ?_
 refine Bf (i:=2) (v:=some p) rfl hS ?_
 refine Bf (i:=3) (v:=some p) rfl hS ?_
 refine Bf (i:=4) (v:=(.pointer (some ⟨p,2,none⟩))) rfl hS ?_
 refine Ga (i:=5) (v:=s.mode) rfl (fun w' ag=>by have e0:w'.cell? ⟨p,2,none⟩=some (.int .i64 s.mode):=(HP.out w' ag.1).cell 2;go_simp) hS ?_
 refine Bf (i:=6) (v:=some p) rfl hS ?_
 refine Bf (i:=7) (v:=some p) rfl hS ?_
 refine Bf (i:=8) (v:=(.pointer (some ⟨p,32,none⟩))) rfl hS ?_
 refine Ga (i:=9) (v:=(.agg #[s.part.first,s.part.reg,s.part.op,s.part.second,s.part.wait])) rfl (fun w' ag=>by exact Dy 34 (.tmp 16) rfl p 32 5 rfl (HP.out _ ag.1) (by kernel_rfl) underlying34 rfl (by kernel_rfl)) hS ?_
 refine Bf (i:=10) (v:=some p) rfl hS ?_
 refine Bf (i:=11) (v:=some p) rfl hS ?_
 refine Bf (i:=12) (v:=(.pointer (some ⟨p,30,none⟩))) rfl hS ?_
 refine Ga (i:=13) (v:=(.agg #[s.fk,s.fa])) rfl (fun w' ag=>by exact Dy 36 (.tmp 20) rfl p 30 2 rfl (HP.out _ ag.1) (by kernel_rfl) underlying36 rfl (by kernel_rfl)) hS ?_
 refine Bf (i:=14) (v:=some p) rfl hS ?_
 refine Bf (i:=15) (v:=some p) rfl hS ?_
 refine Bf (i:=16) (v:=(.pointer (some ⟨p,43,none⟩))) rfl hS ?_
 refine Bf (i:=17) (v:=(.pointer (some ⟨p,43,none⟩))) rfl hS ?_
 refine Ga (i:=18) (v:=(.slice A8 n8 c8)) rfl (fun w' ag=>by have e0:w'.cell? ⟨p,43,none⟩=some (.slice A8 n8 c8):=((HP.out w' ag.1).cell 43).trans (congrArg some HV.out.1);go_simp) hS ?_
 refine Bf (i:=19) (v:=(.int .i64 (n8:Int))) rfl hS ?_
 refine Bf (i:=20) (v:=some p) rfl hS ?_
 refine Bf (i:=21) (v:=some p) rfl hS ?_
 refine Bf (i:=22) (v:=(.pointer (some ⟨p,55,none⟩))) rfl hS ?_
 refine Ga (i:=23) (v:=(.bool s.over)) rfl (fun w' ag=>by have e0:w'.cell? ⟨p,55,none⟩=some (.bool s.over):=(HP.out w' ag.1).cell 55;go_simp) hS ?_
 refine Bf (i:=24) (v:=some p) rfl hS ?_
 refine Bf (i:=25) (v:=some p) rfl hS ?_
 refine Bf (i:=26) (v:=(.pointer (some ⟨p,53,none⟩))) rfl hS ?_
 refine Bf (i:=27) (v:=(.pointer (some ⟨p,53,none⟩))) rfl hS ?_
 refine Ga (i:=28) (v:=(.slice A9 n9 k9)) rfl (fun w' ag=>by have e0:w'.cell? ⟨p,53,none⟩=some (.slice A9 n9 k9):=((HP.out w' ag.1).cell 53).trans (congrArg some HV.out.2);go_simp) hS ?_
 refine Bf (i:=30) (v:=some p) rfl hS ?_
 refine Bf (i:=31) (v:=some p) rfl hS ?_
 refine Bf (i:=32) (v:=(.pointer (some ⟨p,53,none⟩))) rfl hS ?_
 refine Bf (i:=33) (v:=(.pointer (some ⟨p,54,none⟩))) rfl hS ?_
 refine Ga (i:=34) (v:=s.rat) rfl (fun w' ag=>by have e0:w'.cell? ⟨p,54,none⟩=some (.int .i64 s.rat):=(HP.out w' ag.1).cell 54;go_simp) hS ?_
 refine Bf (i:=36) (v:=some p) rfl hS ?_
 refine Bf (i:=37) (v:=some p) rfl hS ?_
 refine Bf (i:=38) (v:=(.pointer (some ⟨p,51,none⟩))) rfl hS ?_
 refine Ga (i:=39) (v:=s.off) rfl (fun w' ag=>by have e0:w'.cell? ⟨p,51,none⟩=some (.int .i64 s.off):=(HP.out w' ag.1).cell 51;go_simp) hS ?_
 generalize Wa.drew=cur at*
 iterate 3
  all_goals (first|refine wpAnyH_ready (rs:=[1,41]) (by decide +kernel) (by simp) (Ai rfl (fun K hK=>?_) (Ai rfl (fun K hK=>?_) Am))|refine wpAnyH_ready (rs:=[29,41]) (by decide +kernel) (by simp) (Ai rfl (fun K hK=>?_) (Ai rfl (fun K hK=>?_) Am))|refine wpAnyH_ready (rs:=[1]) (by decide +kernel) (by simp) (Ai rfl (fun K hK=>?_) Am)|refine wpAnyH_ready (rs:=[29]) (by decide +kernel) (by simp) (Ai rfl (fun K hK=>?_) Am)|refine wpAnyH_ready (rs:=[41]) (by decide +kernel) (by simp) (Ai rfl (fun K hK=>?_) Am))
  all_goals (first
   |(
    refine Cl rfl 35 #[.slice A9 n9 k9] rfl (by kernel_rfl) (fun u w'=>∃B d,u=.slice B n9 d∧Ba w' (w.heap.size+1) B n9 d s.row) ((GI.out _ hS.1).mono fun e w' ⟨u,h1,⟨B,d,h2,h3⟩,h4⟩=>⟨u,h1,⟨B,d,h2,h3.lower hS.2.lt⟩,h4⟩) ?_
    rintro u w3 ⟨B,d,rfl,hR⟩ hE;refine hK.out _ _ ⟨hS.1.trans hE,hS.2.ext hE⟩ (fun ao=>?_)
    clear hK K;replace i9:=Ba.ext i9 hE
    try replace cg:=Aq.ext cg hE
    replace hS:=ao;clear ao hE
    try simp only[Ac,Aa,Ab,Ao,A7,Ad,Ae]
    refine Bf (i:=35) (v:=(.agg #[.slice B n9 d,s.rat])) rfl hS ?_
    refine Ga (i:=40) (v:=(.agg (Kc A n c B n9 d n8 s))) rfl (fun w' ag=>by exact jI 43 _ rfl (Kc A n c B n9 d n8 s) (by kernel_rfl)) hS ?_
    skip)
   |(
    refine Cl rfl 34 #[.pointer (some ⟨p,0,none⟩)] rfl (by kernel_rfl) (fun u w'=>∃A n c,u=.agg #[.slice A n c,s.at_]∧Ba w' (w.heap.size+1) A n c s.tx) ((LR.out _ hS.1).mono fun e w' ⟨u,h1,⟨B,n,d,h2,h3⟩,h4⟩=>⟨u,h1,⟨B,n,d,h2,h3.lower hS.2.lt⟩,h4⟩) ?_
    rintro u w2 ⟨A,n,c,rfl,i9⟩ hE;refine hK.out _ _ ⟨hS.1.trans hE,hS.2.ext hE⟩ (fun ao=>?_)
    clear hK K
    try replace cg:=Aq.ext cg hE
    replace hS:=ao;clear ao hE
    try simp only[Ac,Aa,Ab,Ao,A7,Ad,Ae])
   |(
    go_simp
    refine hK.out _ _ ⟨hS.1.to_alloc (.cells Dx 43),hS.2.ext (An.alloc _ _)⟩ (fun ao=>?_)
    clear hK K;have hE:=Ms ao.1
    try replace i9:=Ba.ext i9 hE
    try replace hR:=Ba.ext hR hE
    obtain⟨g5,sm,cg⟩:=J2j ao.1;have mu:=hS.1.hsize;have xq:=hS.2.lt;rw[←sm]at mu xq ⊢;clear sm;replace hS:=ao;clear ao hE;generalize World.alloc _ _=nx at*
    try simp only[Ac,Aa,Ab,Ao,A7,Ad,Ae]))
 all_goals
  refine wpAnyH_ready (rs:=[42]) (by decide +kernel) (by simp) (Ai rfl (fun K hK=>?_) Am)
  refine Ca rfl 43 (.tmp 3) (.tmp 48) rfl g5 0 (Kc A n c B n9 d n8 s) rfl rfl 43 Dx cg (by kernel_rfl) (by show 0+44≤44;decide) (oI _ _ _ _ _ _ _ _) ?_
  rw[Rk (show(Kc A n c B n9 d n8 s).size=Dx.size from rfl)]
  have It:g5≠w.heap.size:=by omega
  have ao:_∧_:=⟨hS.1.setRow mu (Kc A n c B n9 d n8 s),hS.2.setRow_other (Kc A n c B n9 d n8 s) (fun e=>It e.symm)⟩
  have CC:Ba _ (w.heap.size+1) A n c s.tx:=Xj i9 cg (by decide) (Kc A n c B n9 d n8 s)
  have wi:Ba _ (w.heap.size+1) B n9 d s.row:=Xj hR cg (by decide) (Kc A n c B n9 d n8 s)
  have ly:=cg.setRow (Kc A n c B n9 d n8 s);clear i9 hR cg hS;generalize World.setRow _ _ _=w5 at*;refine hK.out _ _ ao (fun hS=>?_)
  clear hK K ao;refine wpAnyH_done (by kernel_rfl) ?_ _
  have YU:=ly.lt;have TJ:=A6 hS;have mp:=A6 ly;have GW:Hid (Bl w5 (w.heap.size+1) (.slice A n c) s.tx∧Bl w5 (w.heap.size+1) (.slice B n9 d) s.row):=A6 ⟨⟨A,n,c,rfl,CC,Bd.nocap' CC,by have:=CC.ints.len;omega⟩,B,n9,d,rfl,wi,Bd.nocap' wi,As⟩
  clear hS ly CC wi;go_upto_region 2 with fail
  go_upto_region 3 with(refine Qb rfl 38 (.tmp 51) rfl p 3 rfl 100 (Nn v s) (Mz v.r) (0,0) _ (HP.out _ TJ.out.1) (yU v s) underlying38 rfl (by kernel_rfl) ?_)
  go_loopw [53] (fun s53 wx=>∃(i:Nat) (a:Array Value),i≤27∧s53=.int .i64 i∧Hid (a.size=44∧(∀j,j<i→∃x,a[10+j]? = some x∧Bl wx (w.heap.size+1) x (s.rl j))∧(∀j,(j<10∨10+i≤j)→a[j]? = (Kc A n c B n9 d n8 s)[j]?))∧Hid (Aq wx g5 43 a)∧Hid (Aq wx w.heap.size 43 Dx)∧Hid (An w wx)∧Hid (Bl wx (w.heap.size+1) (.slice A n c) s.tx∧Bl wx (w.heap.size+1) (.slice B n9 d) s.row)) (fun s53 _=>27-(intOf s53).toNat)
  case atStart=>exact⟨0,Kc A n c B n9 d n8 s,by omega,rfl,A6 ⟨rfl,fun j hj=>absurd hj (Nat.not_lt_zero j),fun _ _=>rfl⟩,mp,A6 TJ.out.2,A6 TJ.out.1,GW⟩
  case round=>
   clear mp TJ GW;obtain⟨i,a,hi7,rfl,Ha,gh,mt,He,HO⟩:=hrel;by_cases ae:i<27
   ·obtain⟨x,ay,A5,n5,c5,rfl,hI,hA5,Iu⟩:=(H.out.ext He.out).ses.dat.here.regs.2 i ae
    have Oh:=Y5 ae ay;have HC:=A6 (Dj hI.ints hA5 Iu);clear ay hI;go_wp2_with fail
    refine HC.out.mono ?_
    rintro e w2 ⟨B5,d5,rfl,hO,hB,au⟩;have lx:=A6 (Aq.ext gh.out au);have Ii:=A6 (Aq.ext mt.out au);have rk:Hid (Bl w2 (w.heap.size+1) (.slice B5 n5 d5) (s.rl i)):=A6 ⟨B5,n5,d5,rfl,Bd.lower hO mt.out.lt,hB,Iu⟩;have XL:=A6 (He.out.trans au);have AN:Hid (a.size=44∧(∀j,j<i→∃x,a[10+j]? = some x∧Bl w2 (w.heap.size+1) x (s.rl j))∧(∀j,(j<10∨10+i≤j)→a[j]? = (Kc A n c B n9 d n8 s)[j]?)):=A6 ⟨Ha.out.1,fun j hj=>by obtain⟨x,h1,h2⟩:=Ha.out.2.1 j hj;exact⟨x,h1,h2.ext au⟩,Ha.out.2.2⟩
    have np:Hid (Bl w2 (w.heap.size+1) (.slice A n c) s.tx∧Bl w2 (w.heap.size+1) (.slice B n9 d) s.row):=A6 ⟨HO.out.1.ext au,HO.out.2.ext au⟩;have zf:=lx.out.frozen (10+i);have fo:w2.cell? ⟨g5,10+i,none⟩=some (.slice none 0 0):=by rw[lx.out.cell (10+i),AN.out.2.2 (10+i) (.inr (Aj _)),oH _ _ _ _ _ _ _ _ i ae]
    clear HC hO hB au Ha gh mt He hA5 Iu HO Oh;go_wp2_with fail
    go_roundw
    case rel=>
     refine⟨i+1,a.setIfInBounds (10+i) (.slice B5 n5 d5),by omega,by go_num,A6 ⟨by simpa using AN.out.1,fun j hj=>?_,fun j hj=>?_⟩,A6 (lx.out.set_ (10+i) _),?_,A6 (XL.out.setCell mu _),A6 ⟨Sd np.out.1 lx.out (by decide),Sd np.out.2 lx.out (by decide)⟩⟩
     ·by_cases ig:j=i
      ·subst ig
       exact⟨_,by rw[J7m,if_pos (by rw[AN.out.1];omega)],Sd rk.out lx.out (by decide)⟩
      ·obtain⟨x,h1,h2⟩:=AN.out.2.1 j (by omega)
       exact⟨x,by rw[Dl (by omega)];exact h1,Sd h2 lx.out (by decide)⟩
     ·exact I124
     ·exact A6 (Bn Ii.out (by omega) (10+i) _)
    case measure=>simp[intOf];omega
   ·obtain rfl:i=27:=by omega
    obtain⟨AL,nL,cL,SL,snL,scL,PL,pnL,pcL,eL,KH,_⟩:=(H.out.ext He.out).ses.dat.here.his;have eh0:v.h0=.slice AL nL cL:=by
     have:=congrArg (fun x=>match x with|Value.agg a=>a[0]? |_=>none) eL
     simp only[Ln,Ct]at this;exact Option.some.inj this
    have HL:=A6 KH.lns;have EC:s.hi.lines.length=nL:=KH.lns.len;have d37:wr.cell? ⟨p,37,none⟩=some (.slice AL nL cL):=(((HP.out wr He.out).cell 37)).trans (congrArg some eh0);have HN:=A6 EC;have HEL:Hid (Value.agg (Ln v s.hi)=_):=A6 eL;have hnL:nL≤1000:=by omega
    clear eL KH eh0 EC;go_wp2_with fail
    obtain⟨w6,OK⟩:∃x,x=wr:=⟨_,rfl⟩;have EO:Hid (∀k,k<wr.heap.size→k≠g5→wr.heap[k]? = wr.heap[k]?):=A6 fun _ _ _=>rfl
    have Iv:g5<wr.heap.size:=gh.out.lt;have yk:Hid (a.size=44∧(∀j,j<27→∃x,a[10+j]? = some x∧Bl wr (w.heap.size+1) x (s.rl j)∧x.ownBlock≠some g5)∧(∀j,(j<10∨10+27≤j)→a[j]? = (Kc A n c B n9 d n8 s)[j]?)∧(Bl wr (w.heap.size+1) (.slice A n c) s.tx∧(Ak A n c).ownBlock≠some g5)∧(Bl wr (w.heap.size+1) (.slice B n9 d) s.row∧(Ak B n9 d).ownBlock≠some g5)∧Aq wr w.heap.size 43 Dx):=
     A6 ⟨Ha.out.1,fun j hj=>by obtain⟨x,h1,h2⟩:=Ha.out.2.1 j hj;exact⟨x,h1,h2,fT h2 gh.out (by decide)⟩,Ha.out.2.2,⟨HO.out.1,fT HO.out.1 gh.out (by decide)⟩,⟨HO.out.2,fT HO.out.2 gh.out (by decide)⟩,mt.out⟩
    have Hx0:=He;have MY:Hid (a.size=44∧a[38]? = some (.slice none 0 0)∧∀j,j≠38→a[j]? = a[j]?):=A6 ⟨Ha.out.1,Ha.out.2.2 38 (.inr (by omega)),fun _ _=>rfl⟩
    have YV:wr.heap.size≤wr.heap.size:=Aj _;rw[←OK]at yk;have hrw:wr.heap.size=w6.heap.size:=by rw[OK]
    rw[←OK]at EO;have EP:Hid (∀k,k<w6.heap.size→k≠g5→wr.heap[k]? = w6.heap[k]?):=A6 fun k _ _=>by rw[OK]
    rw[hrw]at Iv;have OL:w6.heap.size≤wr.heap.size:=by omega
    have YW:w.heap.size≤w6.heap.size:=by have:=He.out.hsize;omega
    clear OK EO YV hrw Ha HO mt He hi7 ae YU xq;go_loopw [69] (fun s69 wx=>∃(k:Nat) (O:Option Addr) (e:Nat) (a':Array Value),k≤nL∧s69=.int .i64 k∧Hid (a'.size=44∧a'[38]? = some (.slice O k e)∧∀j,j≠38→a'[j]? = a[j]?)∧Hid (Aq wx g5 43 a')∧Hid (∀k,k<w6.heap.size→k≠g5→wx.heap[k]? = w6.heap[k]?)∧Hid (An w wx)∧Hid (Hn wx w6.heap.size O k e (s.hi.lines.take k))∧w6.heap.size≤wx.heap.size) (fun s69 _=>nL-(intOf s69).toNat)
    case atStart=>exact⟨0,none,0,a,by omega,rfl,MY,gh,EP,Hx0,A6 (by simpa using Hn.nil _ _),OL⟩
    case round=>
     clear MY gh EP Hx0 OL HL d37;obtain⟨k,O,e,a',hk,rfl,HA,gh,yl,Hx,HO,dl⟩:=hrel;by_cases ae:k<nL
     ·obtain⟨AL',nL',cL',_,_,_,_,_,_,eL,KH,_⟩:=(H.out.ext Hx.out).ses.dat.here.his
      have OM:Ym wr AL nL cL s.hi.lines:=by
       have:=congrArg (fun x=>match x with|Value.agg a=>a[0]? |_=>none) (HEL.out.symm.trans eL)
       simp only[Ct]at this;injection this with this;injection this with e1 e2 e3;subst e1 e2 e3;exact KH.lns
      obtain⟨ad,x,rfl,hc,B4,m,q,rfl,hI,hB,hm⟩:=OM.at_ ae;obtain⟨xs,s9,db,_⟩:=HO.out;have HC:=A6 (Dj (hI.ext (An.drew wr)) hB hm);have a1:wr.drew.cell? ⟨g5,38,none⟩=some (.slice O k e):=(gh.out.cell 38).trans HA.out.2.1;have o3:=A6 s9;have np:=A6 db;clear hI s9 db HO KH eL OM;go_upto_region 10 with fail
      refine J5 (S:=fun w'=>w'.cell? ⟨g5,38,none⟩=some (.slice O k e)) 5 (by kernel_rfl) a1 (fun hS=>?_)
      refine Bg (i:=0) (v:=(.pointer (some ⟨g5,38,none⟩))) rfl (by kernel_rfl) (by kernel_rfl) (by kernel_rfl) (by decide) (fun _ _ _ h=>h) (Or.inl ⟨by rfl,by(intro w' ag;go_simp)⟩) (fun hl=>by first|exact hS|exact absurd hl (by decide)) ?_
      try simp only[Ac,Aa,Ab,Ao,A7,Ad,Ae]
      refine G4 (i:=1) (v:=(.slice O k e)) rfl (by kernel_rfl) (by kernel_rfl) (by kernel_rfl) (by kernel_rfl) (by decide) (by kernel_rfl) (fun _ _ _ h=>h) (Or.inl ⟨by rfl,by(intro w' ag;go_simp)⟩) hS ?_
      try simp only[Ac,Aa,Ab,Ao,A7,Ad,Ae]
      refine Bg (i:=2) (v:=(.slice B4 m q)) rfl (by kernel_rfl) (by kernel_rfl) (by kernel_rfl) (by decide) (fun _ _ _ h=>h) (Or.inl ⟨by rfl,by(intro w' ag;go_simp)⟩) (fun hl=>by first|exact hS|exact absurd hl (by decide)) ?_
      try simp only[Ac,Aa,Ab,Ao,A7,Ad,Ae]
      refine Jb (i:=3) (by decide +kernel) rfl (fun K hK=>?_)
      refine Kh rfl 35 #[.slice B4 m q] (by kernel_rfl) (fun v w'=>∃B2 d2,v=.slice B2 m d2∧Ba w' wr.drew.heap.size B2 m d2 (gL s.hi.lines k)∧(B2=none→d2=0)∧An wr.drew w') (HC.out.mono fun e w' ⟨B2,d2,h1,h2⟩=>⟨_,h1,B2,d2,rfl,h2⟩) ?_
      rintro v w2 ⟨B2,q2,rfl,le,aw,kd⟩;have b1:=kd.cell a1;have b2:(w2.alloc (.cells #[.slice B2 m q2] 25)).cell? ⟨g5,38,none⟩=some (.slice O k e):=An.cell (An.alloc _ _) b1;refine hK.out _ _ b1 (fun hS=>?_)
      clear hK K
      try simp only[Ac,Aa,Ab,Ao,A7,Ad,Ae]
      refine Jb (i:=4) (by decide +kernel) rfl (fun K hK=>?_)
      go_simp
      refine hK.out _ _ b2 (fun _=>?_)
      clear hK K
      try simp only[Ac,Aa,Ab,Ao,A7,Ad,Ae]
      refine G6 (i:=5) (by decide +kernel) rfl (by decide +kernel) (fun K hK=>?_)
      refine Pz rfl (.tmp 74) (.tmp 77) 39 rfl w w6.heap.size 25 i0 _ 1 24 underlying39 hi bm bz az rfl (by decide) O k e xs rfl (Bd.ext o3.out ((An.drew wr).trans kd)) #[.slice B2 m q2] rfl (by simp[Bw]) rfl (by unfold maxLen;omega) (by omega) (Hx.out.trans ((An.drew wr).trans kd)) YW (Ar dl (Ar (An.hsize (An.drew wr)) kd.hsize)) ?_
      intro O3 d3 w3 cv av cf bg;have ap:=Aq.grown (Aq.ext gh.out ((An.drew wr).trans kd)) av (fun e=>by have:=(Bd.blk o3.out _ e.symm).1;omega)
      have c0:w3.cell? ⟨g5,38,none⟩=some (.slice O k e):=(ap.cell 38).trans HA.out.2.1;have f0:=ap.frozen 38;refine hK.out _ _ ?_
      clear hK K
      try simp only[Ac,Aa,Ab,Ao,A7,Ad,Ae]
      refine Bg (i:=6) (v:=(.pointer (some ⟨g5,38,none⟩))) rfl (by kernel_rfl) (by kernel_rfl) (by kernel_rfl) (by decide) (fun _ _ _ h=>h) (Or.inl ⟨by rfl,by(intro w' ag;go_simp)⟩) (fun hl=>by first|exact hS|exact absurd hl (by decide)) ?_
      try simp only[Ac,Aa,Ab,Ao,A7,Ad,Ae]
      refine G6 (i:=7) (by decide +kernel) rfl (by decide +kernel) (fun K hK=>?_)
      go_simp
      refine hK.out _ _ ?_
      clear hK K;refine Mj (by kernel_rfl) ?_ _
      have au:=(An.drew wr).trans kd;have GQ:wr.heap.size≤w2.heap.size:=au.hsize;have DB:∀g,(Ak O k e).ownBlock=some g→g<wr.heap.size:=fun g hg=>(Bd.blk o3.out g hg).2
      have hOl:∀g,(Ak O k e).ownBlock=some g→w6.heap.size≤g:=fun g hg=>(Bd.blk o3.out g hg).1
      have jx:∀g,(Ak B2 m q2).ownBlock=some g→wr.heap.size≤g∧g<w2.heap.size:=fun g hg=>Bd.blk le g hg
      have jn:(Ak B2 m q2).ownBlock=none∨(Ak B2 m q2).ownBlock≠(Ak O k e).ownBlock:=by
       exact I62
      have kt:(Ak B2 m q2).ownBlock=none∨(Ak B2 m q2).ownBlock≠(Ak O3 (k+1) d3).ownBlock:=by
       exact I34
      have jz:Bl w3 w6.heap.size (.slice B2 m q2) (gL s.hi.lines k):=⟨B2,m,q2,rfl,Bd.kept (Bd.lower le (Ar dl (Aj _))) av jn,aw,hm⟩;have hold:Ud w3 w6.heap.size (Ak O3 (k+1) d3).ownBlock xs (s.hi.lines.take k):=(np.out.ext au).grown av cf;have ax:Hn w3 w6.heap.size O3 (k+1) d3 (s.hi.lines.take (k+1)):=⟨xs++[.slice B2 m q2],by simpa using cv,by rw[lD (by rw[HN.out];exact ae)];exact hold.snoc jz kt,Bd.nocap' cv⟩
      have sy:=A6 (ax.setCell (p:=⟨g5,38,none⟩) Iv (.slice O3 (k+1) d3));have dz:=A6 (ap.set_ 38 (.slice O3 (k+1) d3));have gu:=A6 (bg.setCell (p:=⟨g5,38,none⟩) mu (.slice O3 (k+1) d3));have ON:Hid (∀j,j<w6.heap.size→j≠g5→(w3.setCell ⟨g5,38,none⟩ (.slice O3 (k+1) d3)).heap[j]? = w6.heap[j]?):=A6 fun j hj ai=>by
       rw[Cs (fun e=>ai e),av.block j (by omega) (fun e=>by have:=hOl j e.symm;omega),Below.block au j (by omega)]
       exact yl.out j hj ai
      have nd:w6.heap.size≤(w3.setCell ⟨g5,38,none⟩ (.slice O3 (k+1) d3)).heap.size:=by
       have:=(ap.set_ 38 (.slice O3 (k+1) d3)).lt;have h1:=av.size;rw[World.size_setCell];omega
      have HA3:Hid ((a'.setIfInBounds 38 (.slice O3 (k+1) d3)).size=44∧(a'.setIfInBounds 38 (.slice O3 (k+1) d3))[38]? = some (.slice O3 (k+1) d3)∧∀j,j≠38→(a'.setIfInBounds 38 (.slice O3 (k+1) d3))[j]? = a[j]?):=
       A6 ⟨by simpa using HA.out.1,by rw[J7m,if_pos (by rw[HA.out.1];omega)],fun j hj=>by rw[Dl (by omega)];exact HA.out.2.2 j hj⟩
      clear cv av cf bg ap c0 f0 le aw kd b1 b2 au GQ DB hOl jx jn kt jz hold ax a1 o3 np gh Hx HC hc hB hm dl HA yl;go_wp2_with fail
      go_roundw
      case rel=>
       refine⟨_,_,_,_,_,_,_,_,_,_,_,_,_,?_,rfl⟩
       exact⟨k+1,O3,d3,_,by omega,by go_num,HA3,dz,ON,gu,sy,nd⟩
      case measure=>simp[intOf];omega
     ·obtain rfl:k=nL:=by omega
      rw[List.take_of_length_le (by rw[HN.out];exact Aj _)]at HO
      have dk:=(HP.out wr Hx.out);have d39:wr.cell? ⟨p,39,none⟩=some (.int .i64 s.hi.at_):=dk.cell 39;have l37:∀j,10+27≤j→j≠38→a'[j]? = (Kc A n c B n9 d n8 s)[j]? := fun j h1 h2=>(HA.out.2.2 j h2).trans (yk.out.2.2.1 j (.inr h1))
      have l10:∀j,j<10→a'[j]? = (Kc A n c B n9 d n8 s)[j]? := fun j h1=>(HA.out.2.2 j (by omega)).trans (yk.out.2.2.1 j (.inl h1))
      have g39:wr.cell? ⟨g5,39,none⟩=some (.int .i64 0):=(gh.out.cell 39).trans (l37 39 (by omega) (by omega))
      have f39:=gh.out.frozen 39;have bj:Aq wr w.heap.size 43 Dx:=(yl.out _ (by have:=yk.out.2.2.2.2.2.lt;omega) (fun e=>It e.symm)).trans yk.out.2.2.2.2.2
      have YX:=gh.out.set_ 39 (.int .i64 s.hi.at_);have CD:=Bn bj It 39 (.int .i64 s.hi.at_);have ym:(a'.setIfInBounds 39 (.int .i64 s.hi.at_)).size=44:=by simpa using HA.out.1
      have low:∀{y:Value} {l:List Int},Bl w6 (w.heap.size+1) y l→y.ownBlock≠some g5→Bl (wr.setCell ⟨g5,39,none⟩ s.hi.at_) (w.heap.size+1) y l:=fun h1 h2=>
       Sd (yV h1 (Aj _) h2 yl.out) gh.out (by decide)
      have ne39:∀j,j≠39→(a'.setIfInBounds 39 (.int .i64 s.hi.at_))[j]? = a'[j]? := fun j hj=>Dl (by omega)
      have H43:Ea (wr.setCell ⟨g5,39,none⟩ s.hi.at_) (w.heap.size+1) (a'.setIfInBounds 39 (.int .i64 s.hi.at_)) s:=
       {
        size:=ym
        text:=⟨_,(ne39 0 (by omega)).trans (l10 0 (by omega)),low yk.out.2.2.2.1.1 yk.out.2.2.2.1.2⟩
        at_:=(ne39 1 (by omega)).trans (l10 1 (by omega))
        mode:=(ne39 2 (by omega)).trans (l10 2 (by omega))
        part:=⟨(ne39 3 (by omega)).trans (l10 3 (by omega)),(ne39 4 (by omega)).trans (l10 4 (by omega)),(ne39 5 (by omega)).trans (l10 5 (by omega)),(ne39 6 (by omega)).trans (l10 6 (by omega)),(ne39 7 (by omega)).trans (l10 7 (by omega))⟩
        find:=⟨(ne39 8 (by omega)).trans (l10 8 (by omega)),(ne39 9 (by omega)).trans (l10 9 (by omega))⟩
        regs:=fun i hi=>by
         obtain⟨x,h1,h2,h3⟩:=yk.out.2.1 i hi;exact⟨x,((ne39 (10+i) (by omega)).trans (HA.out.2.2 (10+i) (by omega))).trans h1,low h2 h3⟩
        past:=by rw[YL];exact(ne39 37 (by omega)).trans (l37 37 (by omega) (by omega))
        lines:=⟨O,k,e,(ne39 38 (by omega)).trans HA.out.2.1,(HO.out.setCell (p:=⟨g5,39,none⟩) Iv _).lower (by omega)⟩
        where_:=by rw[J7m,if_pos (by rw[HA.out.1];omega)]
        over:=(ne39 40 (by omega)).trans (l37 40 (by omega) (by omega))
        row:=⟨_,(ne39 41 (by omega)).trans (l37 41 (by omega) (by omega)),low yk.out.2.2.2.2.1.1 yk.out.2.2.2.2.1.2⟩
        rat:=(ne39 42 (by omega)).trans (l37 42 (by omega) (by omega))
        off:=(ne39 43 (by omega)).trans (l37 43 (by omega) (by omega)) }
      have nj:=Hx.out.setCell (p:=⟨g5,39,none⟩) mu (.int .i64 s.hi.at_);have cm:=H43.one;have HH:=A6 (Au H43 nj);clear l37 l10 ne39 low H43 nj bj dk yk yl HO HA gh Hx dl;go_upto_region 13 with fail
      clear d39 g39 f39;generalize wr.setCell ⟨g5,39,none⟩ s.hi.at_=w9 at*;generalize a'.setIfInBounds 39 (.int .i64 s.hi.at_)=cs at*;have BT:Dx.size=cs.size:=by rw[ym];rfl
      go_wp2_with (first|(refine wpList_load_row rfl 43 (.tmp 3) rfl g5 rfl 43 cs (0,0) _ YX underlying43 rfl (Jh ym) ?_)|(refine wpList_store_row rfl 43 (.tmp 2) (.tmp 87) rfl w.heap.size cs rfl rfl 43 Dx CD (Jh ym) BT cm ?_))
      have dp:=CD.setRow cs;refine bodyPost_ret (v:=.agg cs) ?_ rfl ⟨cs,rfl,(HH.out.1.setRow (Nat.lt_succ_self _) cs).lower (Nat.le_succ _),HH.out.2.setRow (Aj _) cs⟩
      exact results_cell_row rfl _ _ w.heap.size 43 _ _ _ rfl dp underlying43 rfl (Jh ym)
end
