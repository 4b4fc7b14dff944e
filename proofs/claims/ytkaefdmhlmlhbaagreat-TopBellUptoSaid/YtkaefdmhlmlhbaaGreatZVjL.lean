/-
  Part of the proof: ZVjL.
-/
import Derived.Test.YtkaefdmhlmlhbaaGreatZVjE
set_option maxRecDepth 100000
set_option maxHeartbeats 16000000
set_option linter.unusedVariables false
set_option linter.unusedSimpArgs false
namespace Go.Proofs.YtkaefdmhlmlhbaaGreat
open Go.RowKit
open _root_.List renaming getElem?_append_left→Bo,getElem?_append_right→Bx,getElem?_eq_getElem→Bw,length_append→Bg
open _root_.Nat renaming le_refl→Aj,le_trans→Aq,lt_of_lt_of_le→Bn,mul_le_mul_right→Z3u,zero_le→Au
open Value renaming int→Ar,slice→Ak
open _root_.And renaming intro→Ba
def gB (ts:List ByteArray)(i:Nat):ByteArray:=ts[i]?.getD ByteArray.empty
noncomputable def Fb (s0:PS)(ts:List ByteArray)(i:Nat):PS:=(ts.take i).foldl Cw s0
noncomputable def evI (s0:PS)(ts:List ByteArray):Nat→List (Int×List Int)
 |0=>[]
 |i+1=>evI s0 ts i++(Fb s0 ts (i+1)).told
noncomputable def viI (s0:PS)(ts:List ByteArray):Nat→List Int
 |0=>[]
 |i+1=>viI s0 ts i++(Fb s0 ts (i+1)).vis
def szI (ts:List ByteArray):Nat→Nat
 |0=>0
 |i+1=>szI ts i+((gB ts i).size+1)
theorem Q9q (ts:List ByteArray){i n:Nat}(h:i≤n):szI ts i≤szI ts n:=by
 induction n with
 |zero=>rw[show i=0 by omega];exact Aj _
 |succ n ih=>
  by_cases e:i=n+1
  ·rw[e];exact Aj _
  ·exact Nat.le_trans (ih (by omega)) (Nat.le_add_right _ _)
def Sp (s0:PS)(ts:List ByteArray)(i:Nat):Prop:=(Fb s0 ts i).over=false∧(gB ts i).size≤4096
theorem J7h (s0:PS)(ts:List ByteArray){i:Nat}(hi:i<ts.length):Fb s0 ts (i+1)=Cw (Fb s0 ts i) (gB ts i):=by
 have h:ts.take (i+1)=ts.take i++[gB ts i]:=by
  rw[List.take_add_one];unfold gB;rw[Bw hi]
  rfl
 unfold Fb;rw[h,List.foldl_append]
 rfl
def EvR (w:World)(b:Nat)(E:Value)(evs:List (Int×List Int)):Prop:=∃A n c xs,E=.slice A n c∧B8 w b 48 2 A n c xs∧evs.length=n∧Lq w xs evs
theorem Lq.one {w:World}{xs:List Value}{l:List (Int×List Int)}(h:Lq w xs l)(hl:xs.length=l.length*2):∀u∈xs,u.oneCell'=true:=by
 intro u hu;obtain⟨j,hj,rfl⟩:=List.getElem_of_mem hu;obtain⟨y,h1,h2,A,n,c,rfl,_⟩:=h (j/2) (by omega)
 rcases Nat.mod_two_eq_zero_or_one j with e|e
 ·rw[show j/2*2=j by omega,Bw hj]at h1
  injection h1 with h1;rw[h1];rfl
 ·rw[show j/2*2+1=j by omega,Bw hj]at h2
  injection h2 with h2;rw[h2];rfl
theorem Lq.app {w:World}{xs ys:List Value}{l k:List (Int×List Int)}(h:Lq w xs l)(h':Lq w ys k)(hl:xs.length=l.length*2):Lq w (xs++ys) (l++k):=by
 intro i hi;rw[Bg]at hi;rcases Nat.lt_or_ge i l.length with hlt|hge
 ·obtain⟨y,h1,h2,h3⟩:=h i hlt
  have hg:gV (l++k) i=gV l i:=by unfold gV;rw[Bo hlt]
  rw[hg];exact⟨y,by rw[Bo (by omega)];exact h1,by rw[Bo (by omega)];exact h2,h3⟩
 ·obtain⟨y,h1,h2,h3⟩:=h' (i-l.length) (by omega)
  have hg:gV (l++k) i=gV k (i-l.length):=by unfold gV;rw[Bx hge]
  rw[hg];refine⟨y,?_,?_,h3⟩
  ·rw[Bx (by omega),show i*2-xs.length=(i-l.length)*2 by omega];exact h1
  ·rw[Bx (by omega),show i*2+1-xs.length=(i-l.length)*2+1 by omega];exact h2
structure Lm (w:World)(b:Nat)(col:Nat→Nat)(E S:Value)(evs:List (Int×List Int))(vis:List Int):Prop where
 ev:∃A n c xs F,E=.slice A n c∧B8 w b 48 2 A n c xs∧evs.length=n∧Hh F w (fun x=>Lq x xs evs)∧∀k,F k→k<w.heap.size∧(col k=0∨col k=5)∧E.ownBlock≠some k∧S.ownBlock≠some k
 evc:∀k,E.ownBlock=some k→col k=0
 vi:∃A n c,S=.slice A n c∧Ay w b A n c vis
 vic:∀k,S.ownBlock=some k→col k=0
theorem Lm.nil (w:World)(b:Nat)(col:Nat→Nat):Lm w b col nl nl [] []:=
 ⟨⟨none,0,0,[],fun _=>False,rfl,B8.nil _ _ _ _,rfl,fun M w' ha hk i hi=>absurd hi (Nat.not_lt_zero i),fun k hk=>hk.elim⟩,nofun,⟨none,0,0,rfl,Ay.nil _ _⟩,nofun⟩
theorem Lm.ext {w w':World}{b:Nat}{col:Nat→Nat}{E S:Value}{evs:List (Int×List Int)}{vis:List Int}(h:Lm w b col E S evs vis)(he:Am w w'):Lm w' b col E S evs vis:=by
 obtain⟨⟨A,n,c,xs,F,rfl,h1,h2,h3,h4⟩,h5,⟨A',n',c',rfl,h6⟩,h7⟩:=h;exact⟨⟨A,n,c,xs,F,rfl,B8.ext h1 he,h2,h3.ext he,fun k hF=>⟨Bn (h4 k hF).1 he.hsize,(h4 k hF).2⟩⟩,h5,⟨A',n',c',rfl,Ay.ext h6 he⟩,h7⟩
theorem Lm.feed {w w':World}{b:Nat}{col col':Nat→Nat}{E S:Value}{evs:List (Int×List Int)}{vis:List Int}(h:Lm w b col E S evs vis)(t:Lb w col w' col')
 (hk:∀k,k<w.heap.size→col k=4∨col k=5∨col k=6→w'.heap[k]? = w.heap[k]? ∧ col' k=0):Lm w' b col' E S evs vis:=by
 obtain⟨⟨A,n,c,xs,F,rfl,h1,h2,h3,h4⟩,h5,⟨A',n',c',rfl,h6⟩,h7⟩:=h;have zero:∀k,k<w.heap.size→col k=0→col' k=0:=fun k hk h0=>Decidable.byContradiction fun hn=>t.2 k hk hn h0
 have ha:Gn (fun k=>col k≠0∧col k≠1∧col k≠5) w w':=⟨t.1.os,t.1.tape,t.1.output,t.1.size,fun k hk' hn=>by
  by_cases e:col k=5
  ·exact(hk k hk' (.inr (.inl e))).1
  ·exact t.1.block k hk' fun hn'=>hn ⟨hn'.1,hn'.2,e⟩,t.1.node⟩
 refine⟨⟨A,n,c,xs,F,rfl,B8.same h1 fun k hk'=>ha.block k (B8.blk h1 k hk').2 fun hn=>hn.1 (h5 k hk'),h2,h3.alt ha fun k hk' hF hn=>?_,fun k hF=>?_⟩,fun k hk'=>zero k (B8.blk h1 k hk').2 (h5 k hk'),⟨A',n',c',rfl,B8.same h6 fun k hk'=>ha.block k (B8.blk h6 k hk').2 fun hn=>hn.1 (h7 k hk')⟩,fun k hk'=>zero k (B8.blk h6 k hk').2 (h7 k hk')⟩
 ·rcases(h4 k hF).2.1 with e|e
  ·exact hn.1 e
  ·exact hn.2.2 e
 ·obtain⟨g1,g2,g3⟩:=h4 k hF
  refine⟨Bn g1 t.1.size,.inl ?_,g3⟩
  rcases g2 with e|e
  ·exact zero k g1 e
  ·exact(hk k g1 (.inr (.inl e))).2
theorem Wm {w:World}{b e z n c g:Nat}{A:Option Addr}{xs:List Value}(h:B8 w b e z A n c xs)(hg:(Ak A n c).ownBlock=some g):∃cs,Ap w g e cs:=by
 obtain⟨_,⟨hv,_⟩|⟨g',cap,cur,hv,_,hb,_⟩⟩:=h
 ·rw[hv]at hg;cases hg
 ·rw[hv]at hg
  have hg:some g'=some g:=hg;injection hg with hg;subst hg;exact⟨_,hb⟩
theorem Td {w:World}{b b' e e' z z' n c n' c':Nat}{A A':Option Addr}{xs xs':List Value}(h:B8 w b e z A n c xs)(h':B8 w b' e' z' A' n' c' xs')(hne:e≠e'):(Ak A n c).ownBlock=none∨(Ak A n c).ownBlock≠(Ak A' n' c').ownBlock:=by
 cases hb:(Ak A n c).ownBlock with
 |none=>exact .inl rfl
 |some g=>
  refine .inr fun e1=>?_
  obtain⟨cs,h1⟩:=Wm h hb;obtain⟨cs',h2⟩:=Wm h' e1.symm;exact hne (h1.inj h2).1
theorem Lm.tells {w w':World}{b n m c c2:Nat}{col:Nat→Nat}{A A2:Option Addr}{xs xs':List Value}{S:Value}{evs told:List (Int×List Int)}{vis:List Int}{F:Nat→Prop}
 (h:Lm w b col (.slice A n c) S evs vis) (hown:B8 w b 48 2 A n c xs) (hn:evs.length=n) (hD:Hh F w (fun x=>Lq x xs evs)) (hF:∀k,F k→k<w.heap.size∧(col k=0∨col k=5)∧(Ak A n c).ownBlock≠some k∧S.ownBlock≠some k)
 (hT:Hh (fun k=>col k=5) w fun x=>Lq x xs' told) (hm:told.length=m) (hc5:∀k,col k≠0→k<w.heap.size)
 (hO:B8 w' b 48 2 A2 (n+m) c2 (xs++xs')) (hgr:w.grownBy w' (Ak A n c).ownBlock)
 (hor:(Ak A2 (n+m) c2).ownBlock=(Ak A n c).ownBlock∨(Ak A2 (n+m) c2).ownBlock=some w.heap.size):
 Lm w' b col (.slice A2 (n+m) c2) S (evs++told) vis∧Gn (fun k=>(Ak A n c).ownBlock=some k) w w':=by
 have ha:=Gn.of_own hown hgr (by decide)
 obtain⟨_,h5,⟨A',n',c',rfl,h6⟩,h7⟩:=h;have ht:=Td h6 hown (by decide)
 refine⟨⟨⟨A2,n+m,c2,xs++xs',fun k=>k<w.heap.size∧(F k∨col k=5),rfl,hO,by rw[Bg];omega,?_,fun k hk=>?_⟩,fun k hk=>?_,⟨A',n',c',rfl,B8.kept h6 hgr ht⟩,h7⟩,ha⟩
 ·have h1:=((hD.mono (F':=fun k=>k<w.heap.size∧(F k∨col k=5)) fun k hk hf=>⟨hk,.inl hf⟩).and (hT.mono (F':=fun k=>k<w.heap.size∧(F k∨col k=5)) fun k hk hf=>⟨hk,.inr hf⟩)).imp (D':=fun x=>Lq x (xs++xs') (evs++told)) fun x hx=>hx.1.app hx.2 (by rw[hown.len,hn])
  refine h1.alt ha fun k hk hf hM=>?_
  rcases hf.2 with hf|hf
  ·exact(hF k hf).2.2.1 hM
  ·have:=h5 k hM;omega
 ·have hlt:k<w'.heap.size:=Bn hk.1 ha.size
  have hne2:(Ak A n c).ownBlock≠some k→(Ak A2 (n+m) c2).ownBlock≠some k:=fun h1 h2=>by
   rcases hor with e|e
   ·exact h1 (e.symm.trans h2)
   ·rw[e]at h2;injection h2 with h2;have:=hk.1;omega
  rcases hk.2 with hf|hf
  ·obtain⟨_,g2,g3,g4⟩:=hF k hf
   exact⟨hlt,g2,hne2 g3,g4⟩
  ·exact⟨hlt,.inr hf,hne2 fun e=>by have:=h5 k e;omega,fun e=>by have:=h7 k e;omega⟩
 ·rcases hor with e|e
  ·exact h5 k (e.symm.trans hk)
  ·exact I82
theorem Ke {fn:Func}{t u v x:Tmp}(h:fn.results=#[.tmp t,.tmp u,.tmp v,.tmp x])(tmps:Array Value)(P:Program)(w:World):
 (results fn tmps).run P w=.ok (.tuple #[tmps.getD t undef,tmps.getD u undef,tmps.getD v undef,tmps.getD x undef]) w:=by
 simp[results,h]
theorem Lm.shows {w w':World}{b n m c c2:Nat}{col:Nat→Nat}{A A2:Option Addr}{E:Value}{evs:List (Int×List Int)}{vis news:List Int}
 (h:Lm w b col E (.slice A n c) evs vis) (hown:Ay w b A n c vis) (hc5:∀k,col k≠0→k<w.heap.size)
 (hO:B8 w' b 3 1 A2 (n+m) c2 (vis.map (Ar .i64)++news.map (Ar .i64))) (hgr:w.grownBy w' (Ak A n c).ownBlock)
 (hor:(Ak A2 (n+m) c2).ownBlock=(Ak A n c).ownBlock∨(Ak A2 (n+m) c2).ownBlock=some w.heap.size):
 Lm w' b col E (.slice A2 (n+m) c2) evs (vis++news)∧Gn (fun k=>(Ak A n c).ownBlock=some k) w w':=by
 have ha:=Gn.of_own hown hgr (by decide)
 obtain⟨⟨A1,n1,c1,xs,F,rfl,h1,h2,h3,h4⟩,h5,_,h7⟩:=h;refine⟨⟨⟨A1,n1,c1,xs,F,rfl,B8.kept h1 hgr (Td h1 hown (by decide)),h2,h3.alt ha fun k hk hf hM=>(h4 k hf).2.2.2 hM,fun k hf=>?_⟩,h5,⟨A2,n+m,c2,rfl,by unfold Ay;rw[List.map_append];exact hO⟩,fun k hk=>?_⟩,ha⟩
 ·obtain⟨g1,g2,g3,g4⟩:=h4 k hf
  refine⟨Nat.lt_of_lt_of_le g1 ha.size,g2,g3,fun e=>?_⟩
  rcases hor with e1|e1
  ·exact g4 (e1.symm.trans e)
  ·rw[e1]at e;injection e with e;omega
 ·rcases hor with e|e
  ·exact h7 k (e.symm.trans hk)
  ·exact I82
def Qh (most W:Int):Prop:=(1≤most∧most≤50)∧2≤W∧W≤120
def Z3f (b:Nat)(s0:PS)(ts:List ByteArray)(n W:Nat)(e:Ending)(w':World):Prop:=
 ∃p col v E S,e=.returned (.tuple #[.pointer (some ⟨p,0,none⟩),E,S,.bool true])∧Dk w' col p v (Fb s0 ts n)∧Qd W (szI ts n) (Fb s0 ts n)∧(∀k,col k≠0→b≤k)∧Lm w' b col E S (evI s0 ts n) (viI s0 ts n)
theorem J1r {w:World}{most W:Int}{A:Option Addr}{n c:Nat}{ts:List ByteArray}(hr:Rd w 1 A n c (ts.map Value.string))(hsz:∀i,i≤n→(∀j,j<i→(gB ts j).size≤4096)→szI ts i≤1900000):
 Calls Tryz.prog 10 #[.int .i64 most,.int .i64 W,.slice A n c] w fun e w'=>Am w w'∧
  (
   (Qh most W∧(∀j,j<n→Sp (Jt most W.toNat) ts j)∧Z3f w.heap.size (Jt most W.toNat) ts n W.toNat e w')∨
   (¬(Qh most W∧∀j,j<n→Sp (Jt most W.toNat) ts j)∧e=.returned (.tuple #[.pointer none,.slice none 0 0,.slice none 0 0,.bool false]))):=by
 obtain⟨i0,hi,hz0,hz1,hz2⟩:=info_parts C8;obtain⟨i1,hj,hj0,hj1,hj2⟩:=info_parts J5l;have hlen:ts.length=n:=by have:=hr.len;rw[List.length_map]at this;omega
 have hnm:n≤maxLen:=Aq hr.ncap hr.nmax;unfold maxLen at hnm;have HR:=A6 hr;have HLen:=A6 hlen;clear hr hlen;by_cases hf:Qh most W
 ·obtain⟨Wn,rfl⟩:∃Wn:Nat,W=(Wn:Int):=⟨W.toNat,by have:=hf.2.1;omega⟩
  have HF:=A6 hf;have HNew:=A6 (Q5q (w:=w) (W:=Wn) hf.1.1 hf.1.2 (by have:=hf.2.1;omega) (by have:=hf.2.2;omega))
  have HS0:=A6 (Q6l hf.1.1 hf.1.2 (show 2≤Wn by have:=hf.2.1;omega) (by have:=hf.2.2;omega))
  clear hf;rw[show((Wn:Int)).toNat=Wn from rfl]
  obtain⟨s0,hs0⟩:∃x,x=Jt most Wn:=⟨_,rfl⟩;rw[←hs0]at HNew HS0 ⊢;clear hs0;go_enter Tryz.func10,Tryz.ntmps10
  go_wp2_with fail
  refine HNew.out.mono ?_
  rintro e w1 ⟨p,col1,v1,rfl,hm1,he1,hc1⟩;have HM0:=A6 hm1;have HX0:=A6 he1;have HC0:=A6 hc1;clear hm1 he1 hc1 HNew;go_wp2_with fail
  go_loopw [12,13,33] (fun s12 s13 s33 wx=>∃(i:Nat) (col:Nat→Nat) (v:SV),i≤n∧s33=.int .i64 i∧Hid (Dk wx col p v (Fb s0 ts i))∧Hid (Qd Wn (szI ts i) (Fb s0 ts i))∧Hid (∀k,col k≠0→w.heap.size≤k)∧Hid (Am w wx)∧
   Hid (Lm wx w.heap.size col s12 s13 (evI s0 ts i) (viI s0 ts i))∧Hid ((evI s0 ts i).length≤szI ts i*1905000∧(viI s0 ts i).length≤szI ts i*1000)∧Hid (∀j,j<i→Sp s0 ts j)) (fun _ _ s33 _=>n-(intOf s33).toNat)
  case atStart=>exact⟨0,col1,v1,by omega,rfl,HM0,HS0,HC0,HX0,A6 (Lm.nil w1 _ col1),A6 ⟨Au _,Au _⟩,A6 fun j hj=>absurd hj (Nat.not_lt_zero j)⟩
  case round=>
   clear HM0 HS0 HC0 HX0;obtain⟨i,col,v,hin,rfl,HM,HS,HC,HX,HH,HB,HG⟩:=hrel;by_cases hlt:i<n
   ·have hti:i<ts.length:=by rw[HLen.out];exact hlt
    obtain⟨ad,e,hc⟩:=(Rd.ext HR.out HX.out).at_ hlt;subst e;have hci:=hc i (.string (gB ts i)) (by rw[List.getElem?_map];unfold gB;rw[List.getElem?_eq_getElem hti];rfl)
    have hszi:=hsz i hin fun j hj=>(HG.out j hj).2
    have hszs:szI ts (i+1)=szI ts i+((gB ts i).size+1):=rfl;clear hc;by_cases hov:(Fb s0 ts i).over=true
    ·have HFd:=A6 (J2l (b:=gB ts i) HM.out hov)
     have HNo:Hid (¬(Qh most Wn∧∀j,j<n→Sp s0 ts j)):=A6 fun h=>by have:=(h.2 i hlt).1;rw[hov]at this;cases this
     clear hov hszs hszi;go_wp2_with fail
     refine HFd.out.mono ?_
     rintro e w2 ⟨rfl,rfl⟩;exact I87
    ·have hov:(Fb s0 ts i).over=false:=by simpa using hov
     by_cases hbig:4096<(gB ts i).size
     ·have HFd:=A6 (J7b (b:=gB ts i) HM.out hov HS.out.pend HS.out.pend.lt hbig)
      have HNo:Hid (¬(Qh most Wn∧∀j,j<n→Sp s0 ts j)):=A6 fun h=>by have:=(h.2 i hlt).2;omega
      clear hov hbig hszs hszi;go_wp2_with fail
      refine HFd.out.mono ?_
      rintro e w2 ⟨rfl,he⟩;have HX2:=A6 (HX.out.trans he);clear he;go_wp2_with fail
      refine bodyPost_ret (Ke rfl _ _ _) rfl ⟨HX2.out,.inr ⟨HNo.out,rfl⟩⟩
     ·have hsz1:=hsz (i+1) (by omega) fun j hj=>by
       by_cases e:j=i
       ·rw[e];omega
       ·exact(HG.out j (by omega)).2
      obtain⟨q1,q2,q3,q4⟩:=HS.out.feed (b:=gB ts i) (by omega) (by omega)
      have HFd:=A6 (Zh (b:=gB ts i) HM.out hov HS.out.pend HS.out.pend.lt (by omega) q4)
      have hrs:=J7h s0 ts hti;have HFdq:Hid (Cw (Fb s0 ts i) (gB ts i)=Fb s0 ts (i+1)):=A6 hrs.symm;rw[←hrs]at q1 q2 q3;have HS1:Hid (Qd Wn (szI ts (i+1)) (Fb s0 ts (i+1))):=A6 q1;have HG1:Hid (∀j,j<i+1→Sp s0 ts j):=A6 fun j hj=>by
       by_cases e:j=i
       ·rw[e];exact⟨hov,by omega⟩
       ·exact HG.out j (by omega)
      have HB1:Hid ((evI s0 ts (i+1)).length≤szI ts (i+1)*1905000∧(viI s0 ts (i+1)).length≤szI ts (i+1)*1000):=A6 (by
       have hb:=HB.out
       show(evI s0 ts i++_).length≤_∧(viI s0 ts i++_).length≤_
       rw[Bg,Bg,hszs,Nat.add_mul,Nat.add_mul];omega)
      clear q1 q2 q3 q4 hrs hov hbig hszs;go_wp2_with fail
      refine HFd.out.mono ?_
      rintro e w9 ⟨col9,v9,rfl,hm9,ht9,hk9⟩;rw[show Cc _ _=Fb s0 ts (i+1)from HFdq.out]at hm9
      have hh9:=HH.out.feed ht9 hk9;have hx9:Am w w9:=ht9.1.to_ext HX.out fun k hk hM=>absurd (HC.out k hM.1) (by omega)
      have HC9:Hid (∀k,col9 k≠0→w.heap.size≤k):=A6 fun k hk=>by
       rcases Nat.lt_or_ge k wr.heap.size with h1|h1
       ·exact HC.out k (ht9.2 k h1 hk)
       ·exact Aq HX.out.hsize h1
      obtain⟨B,m,d,xs',hvt,hO',hm',hg',hD'⟩:=hm9.told;obtain⟨B2,m2,d2,hvv,hO2',hg2'⟩:=hm9.vis;rw[hvt,hvv];obtain⟨A1,n1,c1,xs,F,rfl,hown,hn1,hD,hF⟩:=hh9.ev;obtain⟨A2,n2,c2,rfl,hS2⟩:=hh9.vi;have hdom:=hm9.ses.dom;have hb1:=HB1.out;have e1:(evI s0 ts (i+1)).length=n1+m:=by show(evI s0 ts i++_).length=_;rw[Bg,hn1,hm']
      have e2:(viI s0 ts (i+1)).length=n2+m2:=by show(viI s0 ts i++_).length=_;rw[Bg,hS2.ints.len,hO2'.ints.len]
      rw[e1,e2]at hb1;have hbb1:=Aq hb1.1 (Z3u 1905000 hsz1);have hbb2:=Aq hb1.2 (Z3u 1000 hsz1);have hone:∀u∈xs',u.oneCell'=true:=Lq.one hD'.here (by rw[hO'.len,hm'])
      have HZ:=A6 (Ba hm9 (Ba hh9 (Ba hdom (Ba hown (Ba hn1 (Ba hD (Ba hF (Ba hD' hm'))))))));have HSw:=A6 (Ba hS2 hO2');clear hb1 e1 e2 hvt hvv hg' hg2' hh9 hD hF hn1 hm9 hD' hm' ht9 hk9 hdom hS2 hO2' HH HM HS HC;go_wp2_with (at_builtin;refine Ew rfl (.tmp 46) (.tmp 47) 24 rfl w w.heap.size 48 i1 (.agg #[.int .i64 0,.slice none 0 0]) 2 32 Tryz.underlying24 hj hj0 hj1 hj2 rfl (by decide) A1 n1 c1 xs rfl hown B m d xs' rfl hO'.rd hone (by unfold maxLen;omega) (by omega) hx9 (Aj _) hx9.hsize ?_)
      intro A3 c3 w10 hO3 hgr3 hor3 hx10;obtain⟨hm9,hh9,hdom,hown9,hn1,hD,hF,hD',hm'⟩:=HZ.out;obtain⟨hh10,ha10⟩:=hh9.tells hown9 hn1 hD hF hD' hm' hdom hO3 hgr3 hor3;have hm10:=hm9.alt ha10 fun k hk hM=>hh9.evc k hM
      have hS10:Ay w10 w.heap.size A2 n2 c2 (viI s0 ts i):=B8.kept HSw.out.1 hgr3 (Td HSw.out.1 hown9 (by decide))
      have hV10:Ay w10 0 B2 m2 d2 (Fb s0 ts (i+1)).vis:=B8.kept HSw.out.2 hgr3 (Td HSw.out.2 hown9 (by decide))
      have HZ2:=A6 (Ba hm10 (Ba hh10 hS10));have hd10:=fun k hk=>(hm10.ses.dom k hk)
      have HD10:=A6 hd10;clear hO3 hgr3 hor3 hm9 hh9 hdom hown9 hn1 hD hF hD' hm' hh10 ha10 hm10 HZ HSw hown hO' hone hx9 hd10;go_wp2_with (at_builtin;refine Ew rfl (.tmp 49) (.tmp 50) 25 rfl w w.heap.size 3 i0 (.int .i64 0) 1 8 Tryz.underlying25 hi hz0 hz1 hz2 rfl (by decide) A2 n2 c2 _ rfl hS10 B2 m2 d2 _ rfl hV10.ints (ints_oneCell _ _) (by unfold maxLen;omega) (by omega) hx10 (Aj _) hx10.hsize ?_)
      intro A4 c4 w11 hO4 hgr4 hor4 hx11;obtain⟨hm10,hh10,hS10'⟩:=HZ2.out;obtain⟨hh11,ha11⟩:=hh10.shows hS10' HD10.out hO4 hgr4 hor4;have HM11:=A6 (hm10.alt ha11 fun k hk hM=>hh10.vic k hM)
      have HH11:Hid (Lm w11 w.heap.size col9 (.slice A3 (n1+m) c3) (.slice A4 (n2+m2) c4) (evI s0 ts (i+1)) (viI s0 ts (i+1))):=A6 hh11;have HX11:=A6 hx11;clear hO4 hgr4 hor4 hx11 hm10 hh10 hS10' hh11 ha11 HZ2 hS10 hV10 hx10 HD10;go_wp2_with fail
      go_roundw
      case rel=>exact⟨i+1,col9,v9,by omega,by go_num,HM11,HS1,HC9,HX11,HH11,HB1,HG1⟩
      case measure=>simp[intOf];omega
   ·obtain rfl:i=n:=by omega
    go_wp2_with fail
    first
     |exact bodyPost_ret (Ke rfl _ _ _) rfl ⟨HX.out.to_drew,.inl ⟨HF.out,HG.out,p,col,v,_,_,rfl,HM.out.ext (Am.drew _),HS.out,HC.out,HH.out.ext (Am.drew _)⟩⟩
     |exact bodyPost_ret (Ke rfl _ _ _) rfl ⟨HX.out,.inl ⟨HF.out,HG.out,p,col,v,_,_,rfl,HM.out,HS.out,HC.out,HH.out⟩⟩
 ·have HNo:Hid (¬(Qh most W∧∀j,j<n→Sp (Jt most W.toNat) ts j)):=A6 fun h=>hf h.1
  have HNew:=A6 (Q1p (most:=most) (W:=W) (w:=w) (by unfold Qh at hf;omega))
  clear hf;go_enter Tryz.func10,Tryz.ntmps10
  go_wp2_with fail
  refine HNew.out.mono ?_
  rintro e w1 ⟨x,rfl,hx,he⟩;have hxb:(x !=0)=true:=by simpa using hx
  have HX:=A6 he;clear he hx HNew;exact I87
structure Cr where
 tx:List Int
 at_:Int
 md:Int
 rl:Nat→List Int
 part:Pt
 hi:Hi
 past:List (List Int×Int)
 first:List Int
 last:Option (Cm×List Int)
 told:List (Int×List Int)
def J6 (c:Cr)(o:Int)(r:List Int)(ra:Int)(vi:List Int):PS:=⟨c.tx,c.at_,c.md,c.rl,0,0,c.part,c.hi,c.past,c.first,c.last,none,[],false,[],o,10,r,ra,false,c.told,vi⟩
def Q0c (c:Cr)(k:Int)(c':Cr):Prop:=∀o r ra vi,Em (J6 c o r ra vi) k=J6 c' o r ra vi
def Fo (c:Cr)(ks:List Int)(c':Cr):Prop:=∀o r ra vi,∃o' r' ra' vi',Cc (J6 c o r ra vi) ks=J6 c' o' r' ra' vi'
theorem Fo.nil (c:Cr):Fo c [] c:=fun o r ra vi=>⟨o,r,ra,vi,rfl⟩
theorem Fo.cons {c c' c'':Cr}{k:Int}{ks:List Int}(h:Q0c c k c')(h':Fo c' ks c''):Fo c (k::ks) c'':=fun o r ra vi=>by
 have e1:Cc (J6 c o r ra vi) (k::ks)=Cc (Fz (J6 c o r ra vi) k) ks:=rfl;have e2:Fz (J6 c o r ra vi) k=Na (Em (J6 c o r ra vi) k):=if_neg (by show ¬(false=true);decide)
 have e3:Na (J6 c' o r ra vi)=J6 c' (Nv c'.at_ o 10) (Hs c'.tx (Nv c'.at_ o 10) 10) (c'.at_-Nv c'.at_ o 10) (vi++Ec r ra.toNat (Hs c'.tx (Nv c'.at_ o 10) 10) (c'.at_-Nv c'.at_ o 10).toNat):=rfl;rw[e1,e2,h,e3];exact h' _ _ _ _
def Ve:Nat→List Int:=fun _=>[]
def Yw:Hi:=⟨[],5,0,[],[],false⟩
def Pb:List Int:=[97,98,32,99,100]
def cdw:Cm:=⟨0,0,100,119,0⟩
theorem Q4i (rl:Nat→List Int):Mh Pb rl 4 0 0 ⟨0,0,0,48,0⟩=some ⟨Pb,0,0,0,0,rl⟩:=by
 refine J1t ⟨⟨⟨by decide,by decide,by decide⟩,⟨by decide,by decide⟩,.inl rfl,.inl rfl⟩,[],.inl ⟨rfl,48,0,rfl,.inl ⟨rfl,⟨?_,0,false,?_,by decide,rfl⟩,rfl,rfl,rfl,rfl⟩⟩⟩
 ·unfold Vq;decide
 ·unfold Vr C9;exact rfl
theorem J0e:btw Pb [99,100] 0 2∧¬(0=Pb.length∧0=([99,100]:List Int).length):=by unfold btw;decide
theorem J0a (rl:Nat→List Int):Mh Pb rl 0 0 0 cdw=some ⟨[99,100],0,0,0,0,Ki rl 0 false [97,98,32]⟩:=by
 refine J1t ⟨⟨⟨by decide,by decide,by decide⟩,⟨by decide,by decide⟩,.inl rfl,.inr (.inl rfl)⟩,[Pp Pb [99,100] 0 2],.inl ⟨rfl,119,0,rfl,.inr ⟨by decide,0,3,⟨?_,3,false,?_,by decide,nofun,by decide,by decide⟩,?_⟩⟩⟩
 ·unfold Vq;decide
 ·unfold Vr C9;exact rfl
 ·refine⟨nofun,⟨nofun,fun _=>⟨0,false,rfl,?_,rfl⟩⟩,.inr ⟨by decide,rfl,?_,.inr ⟨by decide,rfl,?_⟩⟩⟩
  ·exact fun h=>h.elim (show ¬200<(List.take (3-0) (List.drop 0 Pb)).length by decide) fun h=>by cases h.1
  ·exact⟨0,2,J0e.1,.inr ⟨J0e.2,rfl⟩⟩
  ·show(0:Int)=max 0 (min ((0:Nat):Int) ((([99,100]:List Int).length:Int)-1))
   decide
def c0:Cr:=⟨[],0,1,Ve,Pt.zero,Yw,[],[],none,[]⟩
def c5:Cr:=⟨Pb,5,1,Ve,Pt.zero,Yw,[],[],none,[]⟩
def c6:Cr:=⟨Pb,4,0,Ve,Pt.zero,Yw,[],[],none,[]⟩
def c7:Cr:=⟨Pb,0,0,Ve,Pt.zero,Yw,[],[],none,[]⟩
def c8:Cr:=⟨Pb,0,0,Ve,⟨0,0,100,0,0⟩,Yw,[],[],none,[]⟩
def c9:Cr:=⟨[99,100],0,0,Ki Ve 0 false [97,98,32],Pt.zero,Yw,[(Pb,0)],[],some (cdw,[]),[]⟩
theorem Q9u:Q0c c6 48 c7:=fun o r ra vi=>by
 have e:Em (J6 c6 o r ra vi) 48=doS (J6 c6 o r ra vi) ⟨0,0,0,48,0⟩:=rfl;rw[e];unfold doS;rw[show Mh (J6 c6 o r ra vi).tx (J6 c6 o r ra vi).rl (J6 c6 o r ra vi).at_ (J6 c6 o r ra vi).fk (J6 c6 o r ra vi).fa ⟨0,0,0,48,0⟩=some ⟨Pb,0,0,0,0,Ve⟩from Q4i Ve]
 rfl
theorem Q9t:Q0c c8 119 c9:=fun o r ra vi=>by
 have e:Em (J6 c8 o r ra vi) 119=doS (J6 c7 o r ra vi) cdw:=rfl;rw[e];unfold doS;rw[show Mh (J6 c7 o r ra vi).tx (J6 c7 o r ra vi).rl (J6 c7 o r ra vi).at_ (J6 c7 o r ra vi).fk (J6 c7 o r ra vi).fa cdw=some ⟨[99,100],0,0,0,0,Ki Ve 0 false [97,98,32]⟩from J0a Ve]
 rfl
theorem Q9k:Fo c0 [97,98,32,99,100,27,48,100,119] c9:=
 Fo.cons (c':=⟨[97],1,1,Ve,Pt.zero,Yw,[],[],none,[]⟩) (fun _ _ _ _=>rfl)<|
 Fo.cons (c':=⟨[97,98],2,1,Ve,Pt.zero,Yw,[],[],none,[]⟩) (fun _ _ _ _=>rfl)<|
 Fo.cons (c':=⟨[97,98,32],3,1,Ve,Pt.zero,Yw,[],[],none,[]⟩) (fun _ _ _ _=>rfl)<|
 Fo.cons (c':=⟨[97,98,32,99],4,1,Ve,Pt.zero,Yw,[],[],none,[]⟩) (fun _ _ _ _=>rfl)<|
 Fo.cons (c':=c5) (fun _ _ _ _=>rfl)<|
 Fo.cons (c':=c6) (fun _ _ _ _=>rfl)<|
 Fo.cons Q9u<|
 Fo.cons (c':=c8) (fun _ _ _ _=>rfl)<|
 Fo.cons Q9t (Fo.nil _)
def d0:Cr:={ c9 with told:=[] }
def d1:Cr:=⟨Pb,0,0,Ki Ve 0 false [97,98,32],Pt.zero,Yw,[],[],some (cdw,[]),[]⟩
theorem Q9j:Fo c9 [117] d1:=Fo.cons (fun _ _ _ _=>rfl) (Fo.nil _)
def d2:Cr:=⟨[99,100],0,0,Ki (Ki Ve 0 false [97,98,32]) 0 false [97,98,32],Pt.zero,Yw,[(Pb,0)],[],some (cdw,[]),[]⟩
def d3:Cr:=⟨[],0,1,Ki (Ki Ve 0 false [97,98,32]) 0 false [97,98,32],Pt.zero,⟨[[99,100]],5,1,[],[],false⟩,[],[],some (cdw,[]),[(2,[99,100])]⟩
theorem Q9s:Q0c d1 46 d2:=fun o r ra vi=>by
 have e:Em (J6 d1 o r ra vi) 46=Ez (J6 d1 o r ra vi) 0:=rfl;rw[e];unfold Ez;rw[show(J6 d1 o r ra vi).last=some (cdw,[])from rfl]
 simp only;rw[show Mh (J6 d1 o r ra vi).tx (J6 d1 o r ra vi).rl (J6 d1 o r ra vi).at_ (J6 d1 o r ra vi).fk (J6 d1 o r ra vi).fa (Cd cdw 0)=some ⟨[99,100],0,0,0,0,Ki (Ki Ve 0 false [97,98,32]) 0 false [97,98,32]⟩from J0a _]
 rfl
theorem Q9r:Q0c d2 13 d3:=fun o r ra vi=>by
 have e:Em (J6 d2 o r ra vi) 13=Ma (J6 d2 o r ra vi):=rfl;have ok:T4 Yw:=⟨by decide,by decide,by decide,by decide,by decide,(fun x hx=>by cases hx),⟨F9.nil,Au _⟩,Au _⟩
 have ea:Mz Yw [99,100]=⟨[[99,100]],5,1,[],[],false⟩:=by
  unfold Mz;rw[if_pos ⟨ok.nobad,ok.nolong,by decide⟩]
  rfl
 rw[e];unfold Ma;rw[show Mz (J6 d2 o r ra vi).hi (J6 d2 o r ra vi).tx=_ from ea]
 rfl
theorem Q9i:Fo d1 [46,13] d3:=Fo.cons Q9s (Fo.cons Q9r (Fo.nil _))
def EvV (w:World)(A:Option Addr)(n c:Nat)(evs:List (Int×List Int)):Prop:=∃xs,Rd w 2 A n c xs∧evs.length=n∧∀i,i<n→∃S q r,xs[i*2]? = some (.int .i64 (gV evs i).1)∧xs[i*2+1]? = some (.slice S q r)∧Bj w S q r (gV evs i).2
theorem EvV.ext {w w':World}{A:Option Addr}{n c:Nat}{evs:List (Int×List Int)}(h:EvV w A n c evs)(he:Am w w'):EvV w' A n c evs:=by
 obtain⟨xs,h1,h2,h3⟩:=h;exact⟨xs,Rd.ext h1 he,h2,fun i hi=>by obtain⟨S,q,r,k1,k2,k3⟩:=h3 i hi;exact⟨S,q,r,k1,k2,k3.ext he⟩⟩
theorem EvR.v {w:World}{b:Nat}{E:Value}{evs:List (Int×List Int)}(h:EvR w b E evs):∃A n c,E=.slice A n c∧EvV w A n c evs:=by
 obtain⟨A,n,c,xs,rfl,h1,h2,h3⟩:=h;exact⟨A,n,c,rfl,xs,B8.rd h1,h2,fun i hi=>by obtain⟨y,k1,k2,S,q,r,rfl,k3,_⟩:=h3 i (by omega);exact⟨S,q,r,k1,k2,k3.ints⟩⟩
theorem EvV.at_ {w:World}{A:Option Addr}{n c:Nat}{evs:List (Int×List Int)}(h:EvV w A n c evs){k:Nat}(hk:k<n):
 ∃ad S q r,A=some ad∧w.cell? (ad.add (k*2))=some (.int .i64 (gV evs k).1)∧w.cell? ⟨(ad.add (k*2)).block,(ad.add (k*2)).off+1,none⟩=some (.slice S q r)∧Bj w S q r (gV evs k).2:=by
 obtain⟨xs,h1,h2,h3⟩:=h;obtain⟨ad,hA,hc⟩:=h1.at_ hk;obtain⟨S,q,r,k1,k2,k3⟩:=h3 k hk;refine⟨ad,S,q,r,hA,hc _ _ k1,?_,k3⟩
 have:=hc _ _ k2;rw[←Ku]at this;exact this
theorem J3y {f:Int}{A B:Option Addr}{n c m d:Nat}{x:List Int}{w:World}(hl:Bj w A n c x)(hl':Bj w B m d x):
 Calls Tryz.prog 32 #[.agg #[.int .i64 f,.slice A n c],.agg #[.int .i64 f,.slice B m d]] w fun e w'=>e=.returned (.bool true)∧Am w w':=by
 have hx:Am w ((w.alloc (.cells #[.int .i64 f,.slice A n c] 48)).alloc (.cells #[.int .i64 f,.slice B m d] 48)):=(Am.alloc _ _).to_alloc _;have HC:Hid (Calls Tryz.prog 12 #[.slice A n c,.slice B m d] ((w.alloc (.cells #[.int .i64 f,.slice A n c] 48)).alloc (.cells #[.int .i64 f,.slice B m d] 48)) fun e w'=>e=.returned (.bool true)∧Am ((w.alloc (.cells #[.int .i64 f,.slice A n c] 48)).alloc (.cells #[.int .i64 f,.slice B m d] 48)) w'):=
  A6 ((Jg (hl.ext hx) (hl'.ext hx)).mono fun e w' ⟨h1,h2⟩=>⟨by rw[h1,Lv.2 rfl],h2⟩)
 have b1:(f==f)=true:=by simp
 clear hl hl';go_enter Tryz.func32,Tryz.ntmps32
 go_wp2_with fail
 refine HC.out.mono ?_
 rintro e w1 ⟨rfl,he1⟩;go_wp2_with fail
 go_ret
 exact⟨rfl,hx.trans he1⟩
theorem J3z {A B:Option Addr}{n c d:Nat}{evs:List (Int×List Int)}{w:World}(h:EvV w A n c evs)(h':EvV w B n d evs):
 Calls Tryz.prog 31 #[.slice A n c,.slice B n d,.func (.func 32) #[] #[]] w fun e w'=>e=.returned (.bool true)∧Am w w':=by
 have hcm:=Nat.le_trans h.choose_spec.1.ncap h.choose_spec.1.nmax;unfold maxLen at hcm;have hne:((n:Int) !=(n:Int))=false:=by simp
 go_enter Tryz.func31,Tryz.ntmps31
 go_wp2_with fail
 go_loopw [17] (fun i wr=>∃k:Nat,k≤n∧i=.int .i64 k∧Am w wr) (fun i _=>n-(intOf i).toNat)
 case atStart=>exact⟨0,by omega,rfl,Am.refl _⟩
 case round=>
  obtain⟨k,hk,rfl,he⟩:=hrel;by_cases hlt:k<n
  ·obtain⟨ad,S,x,y,rfl,k0,k1,hx⟩:=(h.ext he).at_ hlt
   obtain⟨ad',S',x',y',rfl,l0,l1,hx'⟩:=(h'.ext he).at_ hlt;generalize (gV evs k).1=f at*;generalize (gV evs k).2=z at*;have e1:=(Am.alloc wr (.cells #[.int .i64 f,.slice S x y] 48)).cell l0;have e2:=(Am.alloc wr (.cells #[.int .i64 f,.slice S x y] 48)).cell l1;have hx2:Am w ((wr.alloc (.cells #[.int .i64 f,.slice S x y] 48)).alloc (.cells #[.int .i64 f,.slice S' x' y'] 48)):=(he.to_alloc _).to_alloc _;have hxr:Am wr ((wr.alloc (.cells #[.int .i64 f,.slice S x y] 48)).alloc (.cells #[.int .i64 f,.slice S' x' y'] 48)):=(Am.alloc _ _).to_alloc _;have HC:=A6 (J3y (f:=f) (hx.ext hxr) (hx'.ext hxr));have HX2:=A6 hx2;clear hx hx' l0 l1 hx2 hxr;go_wp2_with fail
   refine HC.out.mono ?_
   rintro e' w1 ⟨rfl,he1⟩;clear HC;go_wp2_with fail
   go_roundw
   case rel=>exact⟨k+1,by omega,by go_num,HX2.out.trans he1⟩
   case measure=>simp[intOf];omega
  ·exact I107
theorem Vm {A B:Option Addr}{n c d:Nat}{evs:List (Int×List Int)}{w:World}(h:EvV w A n c evs)(h':EvV w B n d evs):
 Calls Tryz.prog 11 #[.slice A n c,.slice B n d] w fun e w'=>e=.returned (.bool true)∧Am w w':=by
 have HC:=A6 (J3z h h');clear h h';go_enter Tryz.func11,Tryz.ntmps11
 go_wp2_with fail
 refine HC.out.mono ?_
 rintro e' w1 ⟨rfl,he1⟩;go_wp2_with fail
 go_ret
 exact⟨rfl,he1⟩
theorem Mq {P:Program}{ops:Array Oper}{rest:List Oper}{o:Oper}{a:Act}{w:World}{Q:Exit→Act→World→Prop}(hw:Region.wanted o (yielded ops a.tmps)=true)(ty:TypeId)(x:Operand)(ho:o.op=.load ty x)
 (g off:Nat) (hx:a.eval x=.pointer (some ⟨g,off,none⟩)) (t:TypeId) (cs vs:Array Value) (fr:Nat×Nat) (d:TypeDesc) (hg:w.heap[g]? = some (.cells cs t fr)) (hv:∀j v,vs[j]? = some v→cs[off+j]? = some v)
 (hu:P.underlying ty=some d) (hd:(match d with|.struct _|.array _ _=>true|_=>false)=true) (hi:(P.info? ty).map (·.size)=some vs.size)
 (h:wpList P ops Q rest (a.put o.dst (.agg vs)) w):wpList P ops Q (o::rest) a w:=by
 unfold wpList;rw[if_pos hw];refine .inl ?_
 unfold Oper.wp execOp;simp only[ho,hx,Instr.loadAt,Instr.sureAddr,Sem.run_bind,Sem.run_pure,Result.andThen_ok,J5 w g off t ty cs vs fr d hg hv hu hd hi];exact h
theorem Q8u {cs:Array Value}(h:cs.size=44):∀(j:Nat) (v:Value),(cs.extract 10 37)[j]? = some v→cs[10+j]? = some v:=by
 intro j v hv;rw[Array.getElem?_extract]at hv;split at hv
 ·exact hv
 ·cases hv
theorem J5q {cs:Array Value}(h:cs.size=44):(cs.extract 10 37).size=27:=by rw[Array.size_extract,h];rfl
theorem Q0n {cs:Array Value}(h:cs.size=44):(Tryz.prog.info? 38).map (·.size)=some (cs.extract 10 37).size:=by rw[J5q h];kernel_rfl
theorem Eo.regs' {w:World}{b:Nat}{cs:Array Value}{s:PS}(h:Eo w b cs s):Kl w (cs.extract 10 37) s.rl:=by
 refine⟨J5q h.size,fun i hi=>?_⟩
 obtain⟨v,h1,h2⟩:=h.regs i hi;exact⟨v,by rw[Array.getElem?_extract,if_pos (by rw[h.size];omega)];exact h1,h2.sl⟩
theorem J0v {w:World}{b b':Nat}{cs ds:Array Value}{s:PS}(h:Eo w b cs s)(h':Eo w b' ds s):
 Calls Tryz.prog 13 #[.agg cs,.agg ds] w fun e w'=>e=.returned (.bool true)∧Am w w':=by
 have hx:Am w ((w.alloc (.cells cs 43)).alloc (.cells ds 43)):=(Am.alloc _ _).to_alloc _;have hb1:=(Ap.new w 43 cs).ext (Am.alloc _ (.cells ds 43));have hb2:=Ap.new (w.alloc (.cells cs 43)) 43 ds;rw[World.size_alloc]at hb2;obtain⟨W2,hW2⟩:∃x,x=(w.alloc (.cells cs 43)).alloc (.cells ds 43):=⟨_,rfl⟩;rw[←hW2]at hx hb1 hb2;obtain⟨v0,a0,A,n,c,rfl,t1,_⟩:=h.text;obtain⟨v0',a0',A',n',c',rfl,t1',_⟩:=h'.text;obtain⟨v1,a1,B,m,d,rfl,r1,_⟩:=h.row;obtain⟨v1',a1',B',m',d',rfl,r1',_⟩:=h'.row;obtain⟨L,k,e,a2,l1⟩:=h.lines;obtain⟨L',k',e',a2',l1'⟩:=h'.lines;have hk:k'=k:=by have h1:=l1.lns.len;have h2:=l1'.lns.len;omega
 subst hk;have HLine:Hid (∀wq,Am W2 wq→_):=A6 fun wq he=>J0w (a:=s.at_) (t1.ints.ext (hx.trans he)) (t1'.ints.ext (hx.trans he))
 have HRow:Hid (∀wq,Am W2 wq→_):=A6 fun wq he=>J2p (a:=s.rat) (r1.ints.ext (hx.trans he)) (r1'.ints.ext (hx.trans he))
 have HLns:Hid (∀wq,Am W2 wq→_):=A6 fun wq he=>Q1u (l1.lns.ext (hx.trans he)) (l1'.lns.ext (hx.trans he))
 have HRg:Hid (∀wq,Am W2 wq→_):=A6 fun wq he=>J0u (h.regs'.ext (hx.trans he)) (h'.regs'.ext (hx.trans he))
 have HX:=A6 hx;have HB1:Hid (∀wq,Am W2 wq→_):=A6 fun wq he=>hb1.ext he
 have HB2:Hid (∀wq,Am W2 wq→_):=A6 fun wq he=>hb2.ext he
 have HS:=A6 (And.intro h.size h'.size);have HCell:Hid (∀wq,Am W2 wq→wq.cell? ⟨w.heap.size,0,none⟩=some (.slice A n c)∧wq.cell? ⟨w.heap.size+1,0,none⟩=some (.slice A' n' c')∧wq.cell? ⟨w.heap.size,1,none⟩=some (.int .i64 s.at_)∧wq.cell? ⟨w.heap.size+1,1,none⟩=some (.int .i64 s.at_)∧wq.cell? ⟨w.heap.size,2,none⟩=some (.int .i64 s.mode)∧wq.cell? ⟨w.heap.size+1,2,none⟩=some (.int .i64 s.mode)∧wq.cell? ⟨w.heap.size,3,none⟩=some (.int .i64 s.part.first)∧wq.cell? ⟨w.heap.size+1,3,none⟩=some (.int .i64 s.part.first)∧wq.cell? ⟨w.heap.size,4,none⟩=some (.int .i64 s.part.reg)∧wq.cell? ⟨w.heap.size+1,4,none⟩=some (.int .i64 s.part.reg)∧wq.cell? ⟨w.heap.size,5,none⟩=some (.int .i64 s.part.op)∧wq.cell? ⟨w.heap.size+1,5,none⟩=some (.int .i64 s.part.op)∧wq.cell? ⟨w.heap.size,6,none⟩=some (.int .i64 s.part.second)∧wq.cell? ⟨w.heap.size+1,6,none⟩=some (.int .i64 s.part.second)∧wq.cell? ⟨w.heap.size,7,none⟩=some (.int .i64 s.part.wait)∧wq.cell? ⟨w.heap.size+1,7,none⟩=some (.int .i64 s.part.wait)∧wq.cell? ⟨w.heap.size,8,none⟩=some (.int .i64 s.fk)∧wq.cell? ⟨w.heap.size+1,8,none⟩=some (.int .i64 s.fk)∧wq.cell? ⟨w.heap.size,9,none⟩=some (.int .i64 s.fa)∧wq.cell? ⟨w.heap.size+1,9,none⟩=some (.int .i64 s.fa)∧wq.cell? ⟨w.heap.size,37,none⟩=some (.int .i64 (s.past.length:Int))∧wq.cell? ⟨w.heap.size+1,37,none⟩=some (.int .i64 (s.past.length:Int))∧wq.cell? ⟨w.heap.size,38,none⟩=some (.slice L k' e)∧wq.cell? ⟨w.heap.size+1,38,none⟩=some (.slice L' k' e')∧wq.cell? ⟨w.heap.size,39,none⟩=some (.int .i64 s.hi.at_)∧wq.cell? ⟨w.heap.size+1,39,none⟩=some (.int .i64 s.hi.at_)∧wq.cell? ⟨w.heap.size,40,none⟩=some (.bool s.over)∧wq.cell? ⟨w.heap.size+1,40,none⟩=some (.bool s.over)∧wq.cell? ⟨w.heap.size,41,none⟩=some (.slice B m d)∧wq.cell? ⟨w.heap.size+1,41,none⟩=some (.slice B' m' d')∧wq.cell? ⟨w.heap.size,42,none⟩=some (.int .i64 s.rat)∧wq.cell? ⟨w.heap.size+1,42,none⟩=some (.int .i64 s.rat)∧wq.cell? ⟨w.heap.size,43,none⟩=some (.int .i64 s.off)∧wq.cell? ⟨w.heap.size+1,43,none⟩=some (.int .i64 s.off)):=A6 fun wq he=>⟨((HB1.out wq he).cell 0).trans a0,((HB2.out wq he).cell 0).trans a0',((HB1.out wq he).cell 1).trans h.at_,((HB2.out wq he).cell 1).trans h'.at_,((HB1.out wq he).cell 2).trans h.mode,((HB2.out wq he).cell 2).trans h'.mode,((HB1.out wq he).cell 3).trans h.part.1,((HB2.out wq he).cell 3).trans h'.part.1,((HB1.out wq he).cell 4).trans h.part.2.1,((HB2.out wq he).cell 4).trans h'.part.2.1,((HB1.out wq he).cell 5).trans h.part.2.2.1,((HB2.out wq he).cell 5).trans h'.part.2.2.1,((HB1.out wq he).cell 6).trans h.part.2.2.2.1,((HB2.out wq he).cell 6).trans h'.part.2.2.2.1,((HB1.out wq he).cell 7).trans h.part.2.2.2.2,((HB2.out wq he).cell 7).trans h'.part.2.2.2.2,((HB1.out wq he).cell 8).trans h.find.1,((HB2.out wq he).cell 8).trans h'.find.1,((HB1.out wq he).cell 9).trans h.find.2,((HB2.out wq he).cell 9).trans h'.find.2,((HB1.out wq he).cell 37).trans h.past,((HB2.out wq he).cell 37).trans h'.past,((HB1.out wq he).cell 38).trans a2,((HB2.out wq he).cell 38).trans a2',((HB1.out wq he).cell 39).trans h.where_,((HB2.out wq he).cell 39).trans h'.where_,((HB1.out wq he).cell 40).trans h.over,((HB2.out wq he).cell 40).trans h'.over,((HB1.out wq he).cell 41).trans a1,((HB2.out wq he).cell 41).trans a1',((HB1.out wq he).cell 42).trans h.rat,((HB2.out wq he).cell 42).trans h'.rat,((HB1.out wq he).cell 43).trans h.off,((HB2.out wq he).cell 43).trans h'.off⟩
 have HWW:=A6 hW2;clear h h' hx hb1 hb2 t1 t1' r1 r1' l1 l1' a0 a0' a1 a1' a2 a2' hW2;go_enter Tryz.func13,Tryz.ntmps13
 go_upto_region 1 with fail
 change Code.wp _ _ _ _ ((w.alloc (.cells cs 43)).alloc (.cells ds 43));rw[←HWW.out];obtain⟨x0,y0,x1,y1,x2,y2,x3,y3,x4,y4,x5,y5,x6,y6,x7,y7,x8,y8,x9,y9,x37,y37,x38,y38,x39,y39,x40,y40,x41,y41,x42,y42,x43,y43⟩:=HCell.out W2 (Am.refl _);go_upto_region 2 with fail
 go_wp2_with fail
 refine(HLine.out W2 (Am.refl _)).mono ?_
 rintro e1 w3 ⟨rfl,he3⟩;clear x0 y0 x1 y1 x2 y2 x3 y3 x4 y4 x5 y5 x6 y6 x7 y7 x8 y8 x9 y9 x37 y37 x38 y38 x39 y39 x40 y40 x41 y41 x42 y42 x43 y43;go_wp2_with (first
  |(refine Mq (by kernel_rfl) 38 (.tmp 62) rfl w.heap.size 10 rfl 43 cs (cs.extract 10 37) (0,0) _ (HB1.out _ he3) (Q8u HS.out.1) Tryz.underlying38 rfl (Q0n HS.out.1) ?_)
  |(refine Mq (by kernel_rfl) 38 (.tmp 64) rfl (w.heap.size+1) 10 rfl 43 ds (ds.extract 10 37) (0,0) _ (HB2.out _ he3) (Q8u HS.out.2) Tryz.underlying38 rfl (Q0n HS.out.2) ?_))
 refine(HRg.out w3 he3).mono ?_
 rintro e2 w4 ⟨rfl,he4⟩;have he34:=he3.trans he4;obtain⟨x0,y0,x1,y1,x2,y2,x3,y3,x4,y4,x5,y5,x6,y6,x7,y7,x8,y8,x9,y9,x37,y37,x38,y38,x39,y39,x40,y40,x41,y41,x42,y42,x43,y43⟩:=HCell.out w4 he34;go_wp2_with fail
 refine(HLns.out w4 he34).mono ?_
 rintro e3 w5 ⟨rfl,he5⟩;have he35:=he34.trans he5;clear x0 y0 x1 y1 x2 y2 x3 y3 x4 y4 x5 y5 x6 y6 x7 y7 x8 y8 x9 y9 x37 y37 x38 y38 x39 y39 x40 y40 x41 y41 x42 y42 x43 y43;obtain⟨x0,y0,x1,y1,x2,y2,x3,y3,x4,y4,x5,y5,x6,y6,x7,y7,x8,y8,x9,y9,x37,y37,x38,y38,x39,y39,x40,y40,x41,y41,x42,y42,x43,y43⟩:=HCell.out w5 he35;go_wp2_with fail
 refine(HRow.out w5 he35).mono ?_
 rintro e4 w6 ⟨rfl,he6⟩;clear x0 y0 x1 y1 x2 y2 x3 y3 x4 y4 x5 y5 x6 y6 x7 y7 x8 y8 x9 y9 x37 y37 x38 y38 x39 y39 x40 y40 x41 y41 x42 y42 x43 y43;go_wp2_with fail
 go_ret
 exact⟨rfl,HX.out.trans (he35.trans he6)⟩
