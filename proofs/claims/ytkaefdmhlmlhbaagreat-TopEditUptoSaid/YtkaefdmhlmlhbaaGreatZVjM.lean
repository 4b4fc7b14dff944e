/-
  Part ZVjM.
-/
import Derived.Test.YtkaefdmhlmlhbaaGreatZVjE
import Derived.OwnWalk
set_option maxRecDepth 100000
set_option maxHeartbeats 16000000
set_option linter.unusedVariables false
set_option linter.unusedSimpArgs false
namespace Go.Proofs.YtkaefdmhlmlhbaaGreat
open Go.RowKit
open _root_.And renaming intro→Bb
open _root_.List renaming length_append→Ba
open _root_.Nat renaming le_refl→Aj,le_trans→Ar,mul_le_mul_right→J2x,zero_le→Aw
open Value renaming int→At,slice→Ak
section
variable {evs:List (Int×List Int)}{cs:Array Value}{w:World}{A:Option Addr}{n c:Nat}
theorem Kq {fn:Func}{t u v x:Tmp}(h:fn.results=#[.tmp t,.tmp u,.tmp v,.tmp x])(tmps:Array Value)(P:Program)(w:World):
 (results fn tmps).run P w=.ok (.tuple #[tmps.getD t undef,tmps.getD u undef,tmps.getD v undef,tmps.getD x undef]) w:=by
 simp[results,h]
theorem Mb.shows {w w':World}{b n m c c2:Nat}{col:Nat→Nat}{A A2:Option Addr}{E:Value}{vis news:List Int}
 (h:Mb w b col E (.slice A n c) evs vis) (hown:Av w b A n c vis) (hc5:∀k,col k≠0→k<w.heap.size)
 (hO:Bd w' b 3 1 A2 (n+m) c2 (vis.map (At .i64)++news.map (At .i64))) (hgr:w.grownBy w' (Ak A n c).ownBlock)
 (hor:(Ak A2 (n+m) c2).ownBlock=(Ak A n c).ownBlock∨(Ak A2 (n+m) c2).ownBlock=some w.heap.size):
 Mb w' b col E (.slice A2 (n+m) c2) evs (vis++news)∧Gz (fun k=>(Ak A n c).ownBlock=some k) w w':=by
 have ha:=Gz.of_own hown hgr (by decide)
 obtain⟨⟨A1,n1,c1,xs,F,rfl,h1,h2,h3,h4⟩,h5,_,h7⟩:=h;refine⟨⟨⟨A1,n1,c1,xs,F,rfl,Bd.kept h1 hgr (U5 h1 hown (by decide)),h2,h3.alt ha fun k hk hf hM=>(h4 k hf).2.2.2 hM,fun k hf=>?_⟩,h5,⟨A2,n+m,c2,rfl,by unfold Av;rw[List.map_append];exact hO⟩,fun k hk=>?_⟩,ha⟩
 ·obtain⟨g1,g2,g3,g4⟩:=h4 k hf
  refine⟨Nat.lt_of_lt_of_le g1 ha.size,g2,g3,fun e=>?_⟩
  rcases hor with e1|e1
  ·exact g4 (e1.symm.trans e)
  ·rw[e1]at e;injection e with e;omega
 ·rcases hor with e|e
  ·exact h7 k (e.symm.trans hk)
  ·exact I87
def Ra (most W:Int):Prop:=(1≤most∧most≤50)∧2≤W∧W≤120
def J2j (b:Nat)(s0:PS)(ts:List ByteArray)(n W:Nat)(e:Ending)(w':World):Prop:=
 ∃p col v E S,e=.returned (.tuple #[.pointer (some ⟨p,0,none⟩),E,S,.bool true])∧Di w' col p v (J3 s0 ts n)∧Nv W (Zn ts n) (J3 s0 ts n)∧(∀k,col k≠0→b≤k)∧Mb w' b col E S (tB s0 ts n) (tA s0 ts n)
theorem oC {most W:Int}{ts:List ByteArray}(hr:Rd w 1 A n c (ts.map Value.string))(hsz:∀i,i≤n→(∀j,j<i→(gB ts j).size≤4096)→Zn ts i≤1900000):
 Calls Tryz.prog 10 #[.int .i64 most,.int .i64 W,.slice A n c] w fun e w'=>An w w'∧
  (
   (Ra most W∧(∀j,j<n→Te (Jj most W.toNat) ts j)∧J2j w.heap.size (Jj most W.toNat) ts n W.toNat e w')∨
   (¬(Ra most W∧∀j,j<n→Te (Jj most W.toNat) ts j)∧e=.returned (.tuple #[.pointer none,.slice none 0 0,.slice none 0 0,.bool false]))):=by
 obtain⟨i0,hi,hz0,hz1,hz2⟩:=info_parts Cb;obtain⟨i1,hj,hj0,hj1,hj2⟩:=info_parts iH;have hlen:ts.length=n:=by have:=hr.len;rw[List.length_map]at this;omega
 have hnm:n≤maxLen:=Ar hr.ncap hr.nmax;unfold maxLen at hnm;have HR:=A6 hr;have HLen:=A6 hlen;clear hr hlen;by_cases hf:Ra most W
 ·obtain⟨Wn,rfl⟩:∃Wn:Nat,W=(Wn:Int):=⟨W.toNat,by have:=hf.2.1;omega⟩
  have HF:=A6 hf;have HNew:=A6 (uB (w:=w) (W:=Wn) hf.1.1 hf.1.2 (by have:=hf.2.1;omega) (by have:=hf.2.2;omega))
  have HS0:=A6 (uW hf.1.1 hf.1.2 (show 2≤Wn by have:=hf.2.1;omega) (by have:=hf.2.2;omega))
  clear hf;rw[show((Wn:Int)).toNat=Wn from rfl]
  obtain⟨s0,hs0⟩:∃x,x=Jj most Wn:=⟨_,rfl⟩;rw[←hs0]at HNew HS0 ⊢;clear hs0;go_enter Tryz.func10,Tryz.ntmps10
  go_wp2_with fail
  refine HNew.out.mono ?_
  rintro e w1 ⟨p,col1,v1,rfl,hm1,he1,hc1⟩;have HM0:=A6 hm1;have HX0:=A6 he1;have HC0:=A6 hc1;clear hm1 he1 hc1 HNew;go_wp2_with fail
  go_loopw [12,13,33] (fun s12 s13 s33 wx=>∃(i:Nat) (col:Nat→Nat) (v:SV),i≤n∧s33=.int .i64 i∧Hid (Di wx col p v (J3 s0 ts i))∧Hid (Nv Wn (Zn ts i) (J3 s0 ts i))∧Hid (∀k,col k≠0→w.heap.size≤k)∧Hid (An w wx)∧
   Hid (Mb wx w.heap.size col s12 s13 (tB s0 ts i) (tA s0 ts i))∧Hid ((tB s0 ts i).length≤Zn ts i*1905000∧(tA s0 ts i).length≤Zn ts i*1000)∧Hid (∀j,j<i→Te s0 ts j)) (fun _ _ s33 _=>n-(intOf s33).toNat)
  case atStart=>exact⟨0,col1,v1,by omega,rfl,HM0,HS0,HC0,HX0,A6 (Mb.nil w1 _ col1),A6 ⟨Aw _,Aw _⟩,A6 fun j hj=>absurd hj (Nat.not_lt_zero j)⟩
  case round=>
   clear HM0 HS0 HC0 HX0;obtain⟨i,col,v,hin,rfl,HM,HS,HC,HX,HH,HB,HG⟩:=hrel;by_cases hlt:i<n
   ·have hti:i<ts.length:=by rw[HLen.out];exact hlt
    obtain⟨ad,e,hc⟩:=(Rd.ext HR.out HX.out).at_ hlt;subst e;have hci:=hc i (.string (gB ts i)) (by rw[List.getElem?_map];unfold gB;rw[List.getElem?_eq_getElem hti];rfl)
    have hszi:=hsz i hin fun j hj=>(HG.out j hj).2
    have hszs:Zn ts (i+1)=Zn ts i+((gB ts i).size+1):=rfl;clear hc;by_cases hov:(J3 s0 ts i).over=true
    ·have HFd:=A6 (dX (b:=gB ts i) HM.out hov)
     have HNo:Hid (¬(Ra most Wn∧∀j,j<n→Te s0 ts j)):=A6 fun h=>by have:=(h.2 i hlt).1;rw[hov]at this;cases this
     clear hov hszs hszi;go_wp2_with fail
     refine HFd.out.mono ?_
     rintro e w2 ⟨rfl,rfl⟩;exact I92
    ·have hov:(J3 s0 ts i).over=false:=by simpa using hov
     by_cases hbig:4096<(gB ts i).size
     ·have HFd:=A6 (jZ (b:=gB ts i) HM.out hov HS.out.pend HS.out.pend.lt hbig)
      have HNo:Hid (¬(Ra most Wn∧∀j,j<n→Te s0 ts j)):=A6 fun h=>by have:=(h.2 i hlt).2;omega
      clear hov hbig hszs hszi;go_wp2_with fail
      refine HFd.out.mono ?_
      rintro e w2 ⟨rfl,he⟩;have HX2:=A6 (HX.out.trans he);clear he;go_wp2_with fail
      refine bodyPost_ret (Kq rfl _ _ _) rfl ⟨HX2.out,.inr ⟨HNo.out,rfl⟩⟩
     ·have hsz1:=hsz (i+1) (by omega) fun j hj=>by
       by_cases e:j=i
       ·rw[e];omega
       ·exact(HG.out j (by omega)).2
      obtain⟨q1,q2,q3,q4⟩:=HS.out.feed (b:=gB ts i) (by omega) (by omega)
      have HFd:=A6 (Uu (b:=gB ts i) HM.out hov HS.out.pend HS.out.pend.lt (by omega) q4)
      have hrs:=kE s0 ts hti;have HFdq:Hid (Ky (J3 s0 ts i) (gB ts i)=J3 s0 ts (i+1)):=A6 hrs.symm;rw[←hrs]at q1 q2 q3;have HS1:Hid (Nv Wn (Zn ts (i+1)) (J3 s0 ts (i+1))):=A6 q1;have HG1:Hid (∀j,j<i+1→Te s0 ts j):=A6 fun j hj=>by
       by_cases e:j=i
       ·rw[e];exact⟨hov,by omega⟩
       ·exact HG.out j (by omega)
      have HB1:Hid ((tB s0 ts (i+1)).length≤Zn ts (i+1)*1905000∧(tA s0 ts (i+1)).length≤Zn ts (i+1)*1000):=A6 (by
       have hb:=HB.out
       show(tB s0 ts i++_).length≤_∧(tA s0 ts i++_).length≤_
       rw[Ba,Ba,hszs,Nat.add_mul,Nat.add_mul];omega)
      clear q1 q2 q3 q4 hrs hov hbig hszs;go_wp2_with fail
      refine HFd.out.mono ?_
      rintro e w9 ⟨col9,v9,rfl,hm9,ht9,hk9⟩;rw[show C8 _ _=J3 s0 ts (i+1)from HFdq.out]at hm9
      have hh9:=HH.out.feed ht9 hk9;have hx9:An w w9:=ht9.1.to_ext HX.out fun k hk hM=>absurd (HC.out k hM.1) (by omega)
      have HC9:Hid (∀k,col9 k≠0→w.heap.size≤k):=A6 fun k hk=>by
       rcases Nat.lt_or_ge k wr.heap.size with h1|h1
       ·exact HC.out k (ht9.2 k h1 hk)
       ·exact Ar HX.out.hsize h1
      obtain⟨B,m,d,xs',hvt,hO',hm',hg',hD'⟩:=hm9.told;obtain⟨B2,m2,d2,hvv,hO2',hg2'⟩:=hm9.vis;rw[hvt,hvv];obtain⟨A1,n1,c1,xs,F,rfl,hown,hn1,hD,hF⟩:=hh9.ev;obtain⟨A2,n2,c2,rfl,hS2⟩:=hh9.vi;have hdom:=hm9.ses.dom;have hb1:=HB1.out;have e1:(tB s0 ts (i+1)).length=n1+m:=by show(tB s0 ts i++_).length=_;rw[Ba,hn1,hm']
      have e2:(tA s0 ts (i+1)).length=n2+m2:=by show(tA s0 ts i++_).length=_;rw[Ba,hS2.ints.len,hO2'.ints.len]
      rw[e1,e2]at hb1;have hbb1:=Ar hb1.1 (J2x 1905000 hsz1);have hbb2:=Ar hb1.2 (J2x 1000 hsz1);have hone:∀u∈xs',u.oneCell'=true:=Mf.one hD'.here (by rw[hO'.len,hm'])
      have HZ:=A6 (Bb hm9 (Bb hh9 (Bb hdom (Bb hown (Bb hn1 (Bb hD (Bb hF (Bb hD' hm'))))))));have HSw:=A6 (Bb hS2 hO2');clear hb1 e1 e2 hvt hvv hg' hg2' hh9 hD hF hn1 hm9 hD' hm' ht9 hk9 hdom hS2 hO2' HH HM HS HC;go_wp2_with (at_builtin;refine Ep rfl (.tmp 46) (.tmp 47) 24 rfl w w.heap.size 48 i1 (.agg #[.int .i64 0,.slice none 0 0]) 2 32 Tryz.underlying24 hj hj0 hj1 hj2 rfl (by decide) A1 n1 c1 xs rfl hown B m d xs' rfl hO'.rd hone (by unfold maxLen;omega) (by omega) hx9 (Aj _) hx9.hsize ?_)
      intro A3 c3 w10 hO3 hgr3 hor3 hx10;obtain⟨hm9,hh9,hdom,hown9,hn1,hD,hF,hD',hm'⟩:=HZ.out;obtain⟨hh10,ha10⟩:=hh9.tells hown9 hn1 hD hF hD' hm' hdom hO3 hgr3 hor3;have hm10:=hm9.alt ha10 fun k hk hM=>hh9.evc k hM
      have hS10:Av w10 w.heap.size A2 n2 c2 (tA s0 ts i):=Bd.kept HSw.out.1 hgr3 (U5 HSw.out.1 hown9 (by decide))
      have hV10:Av w10 0 B2 m2 d2 (J3 s0 ts (i+1)).vis:=Bd.kept HSw.out.2 hgr3 (U5 HSw.out.2 hown9 (by decide))
      have HZ2:=A6 (Bb hm10 (Bb hh10 hS10));have hd10:=fun k hk=>(hm10.ses.dom k hk)
      have HD10:=A6 hd10;clear hO3 hgr3 hor3 hm9 hh9 hdom hown9 hn1 hD hF hD' hm' hh10 ha10 hm10 HZ HSw hown hO' hone hx9 hd10;go_wp2_with (at_builtin;refine Ep rfl (.tmp 49) (.tmp 50) 25 rfl w w.heap.size 3 i0 (.int .i64 0) 1 8 Tryz.underlying25 hi hz0 hz1 hz2 rfl (by decide) A2 n2 c2 _ rfl hS10 B2 m2 d2 _ rfl hV10.ints (ints_oneCell _ _) (by unfold maxLen;omega) (by omega) hx10 (Aj _) hx10.hsize ?_)
      intro A4 c4 w11 hO4 hgr4 hor4 hx11;obtain⟨hm10,hh10,hS10'⟩:=HZ2.out;obtain⟨hh11,ha11⟩:=hh10.shows hS10' HD10.out hO4 hgr4 hor4;have HM11:=A6 (hm10.alt ha11 fun k hk hM=>hh10.vic k hM)
      have HH11:Hid (Mb w11 w.heap.size col9 (.slice A3 (n1+m) c3) (.slice A4 (n2+m2) c4) (tB s0 ts (i+1)) (tA s0 ts (i+1))):=A6 hh11;have HX11:=A6 hx11;clear hO4 hgr4 hor4 hx11 hm10 hh10 hS10' hh11 ha11 HZ2 hS10 hV10 hx10 HD10;go_wp2_with fail
      go_roundw
      case rel=>exact⟨i+1,col9,v9,by omega,by go_num,HM11,HS1,HC9,HX11,HH11,HB1,HG1⟩
      case measure=>simp[intOf];omega
   ·obtain rfl:i=n:=by omega
    go_wp2_with fail
    first
     |exact bodyPost_ret (Kq rfl _ _ _) rfl ⟨HX.out.to_drew,.inl ⟨HF.out,HG.out,p,col,v,_,_,rfl,HM.out.ext (An.drew _),HS.out,HC.out,HH.out.ext (An.drew _)⟩⟩
     |exact bodyPost_ret (Kq rfl _ _ _) rfl ⟨HX.out,.inl ⟨HF.out,HG.out,p,col,v,_,_,rfl,HM.out,HS.out,HC.out,HH.out⟩⟩
 ·have HNo:Hid (¬(Ra most W∧∀j,j<n→Te (Jj most W.toNat) ts j)):=A6 fun h=>hf h.1
  have HNew:=A6 (oZ (most:=most) (W:=W) (w:=w) (by unfold Ra at hf;omega))
  clear hf;go_enter Tryz.func10,Tryz.ntmps10
  go_wp2_with fail
  refine HNew.out.mono ?_
  rintro e w1 ⟨x,rfl,hx,he⟩;have hxb:(x !=0)=true:=by simpa using hx
  have HX:=A6 he;clear he hx HNew;exact I92
structure Cr where
 tx:List Int
 at_:Int
 md:Int
 rl:Nat→List Int
 part:Pt
 hi:Hi
 past:List (List Int×Int)
 first:List Int
 last:Option (Cm×List Int)
 told:List (Int×List Int)
def Jh (c:Cr)(o:Int)(r:List Int)(ra:Int)(vi:List Int):PS:=⟨c.tx,c.at_,c.md,c.rl,0,0,c.part,c.hi,c.past,c.first,c.last,none,[],false,[],o,10,r,ra,false,c.told,vi⟩
def nK (c:Cr)(k:Int)(c':Cr):Prop:=∀o r ra vi,F5 (Jh c o r ra vi) k=Jh c' o r ra vi
def Fv (c:Cr)(ks:List Int)(c':Cr):Prop:=∀o r ra vi,∃o' r' ra' vi',C8 (Jh c o r ra vi) ks=Jh c' o' r' ra' vi'
theorem Fv.nil (c:Cr):Fv c [] c:=fun o r ra vi=>⟨o,r,ra,vi,rfl⟩
theorem Fv.cons {c c' c'':Cr}{k:Int}{ks:List Int}(h:nK c k c')(h':Fv c' ks c''):Fv c (k::ks) c'':=fun o r ra vi=>by
 have e1:C8 (Jh c o r ra vi) (k::ks)=C8 (G6 (Jh c o r ra vi) k) ks:=rfl;have e2:G6 (Jh c o r ra vi) k=Ns (F5 (Jh c o r ra vi) k):=if_neg (by show ¬(false=true);decide)
 have e3:Ns (Jh c' o r ra vi)=Jh c' (Ph c'.at_ o 10) (J6 c'.tx (Ph c'.at_ o 10) 10) (c'.at_-Ph c'.at_ o 10) (vi++Eh r ra.toNat (J6 c'.tx (Ph c'.at_ o 10) 10) (c'.at_-Ph c'.at_ o 10).toNat):=rfl;rw[e1,e2,h,e3];exact h' _ _ _ _
def Wk:Nat→List Int:=fun _=>[]
def Zl:Hi:=⟨[],5,0,[],[],false⟩
def Px:List Int:=[97,98,32,99,100]
def tK:Cm:=⟨0,0,100,119,0⟩
theorem sA (rl:Nat→List Int):Nn Px rl 4 0 0 ⟨0,0,0,48,0⟩=some ⟨Px,0,0,0,0,rl⟩:=by
 refine dF ⟨⟨⟨by decide,by decide,by decide⟩,⟨by decide,by decide⟩,.inl rfl,.inl rfl⟩,[],.inl ⟨rfl,48,0,rfl,.inl ⟨rfl,⟨?_,0,false,?_,by decide,rfl⟩,rfl,rfl,rfl,rfl⟩⟩⟩
 ·unfold Wx;decide
 ·unfold Wy Ce;exact rfl
theorem bK:nF Px [99,100] 0 2∧¬(0=Px.length∧0=([99,100]:List Int).length):=by unfold nF;decide
theorem bG (rl:Nat→List Int):Nn Px rl 0 0 0 tK=some ⟨[99,100],0,0,0,0,Kv rl 0 false [97,98,32]⟩:=by
 refine dF ⟨⟨⟨by decide,by decide,by decide⟩,⟨by decide,by decide⟩,.inl rfl,.inr (.inl rfl)⟩,[Qa Px [99,100] 0 2],.inl ⟨rfl,119,0,rfl,.inr ⟨by decide,0,3,⟨?_,3,false,?_,by decide,nofun,by decide,by decide⟩,?_⟩⟩⟩
 ·unfold Wx;decide
 ·unfold Wy Ce;exact rfl
 ·refine⟨nofun,⟨nofun,fun _=>⟨0,false,rfl,?_,rfl⟩⟩,.inr ⟨by decide,rfl,?_,.inr ⟨by decide,rfl,?_⟩⟩⟩
  ·exact fun h=>h.elim (show ¬200<(List.take (3-0) (List.drop 0 Px)).length by decide) fun h=>by cases h.1
  ·exact⟨0,2,bK.1,.inr ⟨bK.2,rfl⟩⟩
  ·show(0:Int)=max 0 (min ((0:Nat):Int) ((([99,100]:List Int).length:Int)-1))
   decide
def c0:Cr:=⟨[],0,1,Wk,Pt.zero,Zl,[],[],none,[]⟩
def c5:Cr:=⟨Px,5,1,Wk,Pt.zero,Zl,[],[],none,[]⟩
def c6:Cr:=⟨Px,4,0,Wk,Pt.zero,Zl,[],[],none,[]⟩
def c7:Cr:=⟨Px,0,0,Wk,Pt.zero,Zl,[],[],none,[]⟩
def c8:Cr:=⟨Px,0,0,Wk,⟨0,0,100,0,0⟩,Zl,[],[],none,[]⟩
def c9:Cr:=⟨[99,100],0,0,Kv Wk 0 false [97,98,32],Pt.zero,Zl,[(Px,0)],[],some (tK,[]),[]⟩
theorem yT:nK c6 48 c7:=fun o r ra vi=>by
 have e:F5 (Jh c6 o r ra vi) 48=doS (Jh c6 o r ra vi) ⟨0,0,0,48,0⟩:=rfl;rw[e];unfold doS;rw[show Nn (Jh c6 o r ra vi).tx (Jh c6 o r ra vi).rl (Jh c6 o r ra vi).at_ (Jh c6 o r ra vi).fk (Jh c6 o r ra vi).fa ⟨0,0,0,48,0⟩=some ⟨Px,0,0,0,0,Wk⟩from sA Wk]
 rfl
theorem yS:nK c8 119 c9:=fun o r ra vi=>by
 have e:F5 (Jh c8 o r ra vi) 119=doS (Jh c7 o r ra vi) tK:=rfl;rw[e];unfold doS;rw[show Nn (Jh c7 o r ra vi).tx (Jh c7 o r ra vi).rl (Jh c7 o r ra vi).at_ (Jh c7 o r ra vi).fk (Jh c7 o r ra vi).fa tK=some ⟨[99,100],0,0,0,0,Kv Wk 0 false [97,98,32]⟩from bG Wk]
 rfl
theorem yK:Fv c0 [97,98,32,99,100,27,48,100,119] c9:=
 Fv.cons (c':=⟨[97],1,1,Wk,Pt.zero,Zl,[],[],none,[]⟩) (fun _ _ _ _=>rfl)<|
 Fv.cons (c':=⟨[97,98],2,1,Wk,Pt.zero,Zl,[],[],none,[]⟩) (fun _ _ _ _=>rfl)<|
 Fv.cons (c':=⟨[97,98,32],3,1,Wk,Pt.zero,Zl,[],[],none,[]⟩) (fun _ _ _ _=>rfl)<|
 Fv.cons (c':=⟨[97,98,32,99],4,1,Wk,Pt.zero,Zl,[],[],none,[]⟩) (fun _ _ _ _=>rfl)<|
 Fv.cons (c':=c5) (fun _ _ _ _=>rfl)<|
 Fv.cons (c':=c6) (fun _ _ _ _=>rfl)<|
 Fv.cons yT<|
 Fv.cons (c':=c8) (fun _ _ _ _=>rfl)<|
 Fv.cons yS (Fv.nil _)
def d0:Cr:={ c9 with told:=[] }
def d1:Cr:=⟨Px,0,0,Kv Wk 0 false [97,98,32],Pt.zero,Zl,[],[],some (tK,[]),[]⟩
theorem yJ:Fv c9 [117] d1:=Fv.cons (fun _ _ _ _=>rfl) (Fv.nil _)
def d2:Cr:=⟨[99,100],0,0,Kv (Kv Wk 0 false [97,98,32]) 0 false [97,98,32],Pt.zero,Zl,[(Px,0)],[],some (tK,[]),[]⟩
def d3:Cr:=⟨[],0,1,Kv (Kv Wk 0 false [97,98,32]) 0 false [97,98,32],Pt.zero,⟨[[99,100]],5,1,[],[],false⟩,[],[],some (tK,[]),[(2,[99,100])]⟩
theorem yR:nK d1 46 d2:=fun o r ra vi=>by
 have e:F5 (Jh d1 o r ra vi) 46=Ge (Jh d1 o r ra vi) 0:=rfl;rw[e];unfold Ge;rw[show(Jh d1 o r ra vi).last=some (tK,[])from rfl]
 simp only;rw[show Nn (Jh d1 o r ra vi).tx (Jh d1 o r ra vi).rl (Jh d1 o r ra vi).at_ (Jh d1 o r ra vi).fk (Jh d1 o r ra vi).fa (Ck tK 0)=some ⟨[99,100],0,0,0,0,Kv (Kv Wk 0 false [97,98,32]) 0 false [97,98,32]⟩from bG _]
 rfl
theorem yQ:nK d2 13 d3:=fun o r ra vi=>by
 have e:F5 (Jh d2 o r ra vi) 13=Pn (Jh d2 o r ra vi):=rfl;have ok:Tu Zl:=⟨by decide,by decide,by decide,by decide,by decide,(fun x hx=>by cases hx),⟨Fl.nil,Aw _⟩,Aw _⟩
 have ea:Nr Zl [99,100]=⟨[[99,100]],5,1,[],[],false⟩:=by
  unfold Nr;rw[if_pos ⟨ok.nobad,ok.nolong,by decide⟩]
  rfl
 rw[e];unfold Pn;rw[show Nr (Jh d2 o r ra vi).hi (Jh d2 o r ra vi).tx=_ from ea]
 rfl
theorem yI:Fv d1 [46,13] d3:=Fv.cons yR (Fv.cons yQ (Fv.nil _))
def tM (w:World)(A:Option Addr)(n c:Nat)(evs:List (Int×List Int)):Prop:=∃xs,Rd w 2 A n c xs∧evs.length=n∧∀i,i<n→∃S q r,xs[i*2]? = some (.int .i64 (gV evs i).1)∧xs[i*2+1]? = some (.slice S q r)∧Bl w S q r (gV evs i).2
theorem tM.ext {w w':World}(h:tM w A n c evs)(he:An w w'):tM w' A n c evs:=by
 obtain⟨xs,h1,h2,h3⟩:=h;exact⟨xs,Rd.ext h1 he,h2,fun i hi=>by obtain⟨S,q,r,k1,k2,k3⟩:=h3 i hi;exact⟨S,q,r,k1,k2,k3.ext he⟩⟩
theorem EvR.v {b:Nat}{E:Value}(h:EvR w b E evs):∃A n c,E=.slice A n c∧tM w A n c evs:=by
 obtain⟨A,n,c,xs,rfl,h1,h2,h3⟩:=h;exact⟨A,n,c,rfl,xs,Bd.rd h1,h2,fun i hi=>by obtain⟨y,k1,k2,S,q,r,rfl,k3,_⟩:=h3 i (by omega);exact⟨S,q,r,k1,k2,k3.ints⟩⟩
theorem tM.at_ (h:tM w A n c evs){k:Nat}(hk:k<n):
 ∃ad S q r,A=some ad∧w.cell? (ad.add (k*2))=some (.int .i64 (gV evs k).1)∧w.cell? ⟨(ad.add (k*2)).block,(ad.add (k*2)).off+1,none⟩=some (.slice S q r)∧Bl w S q r (gV evs k).2:=by
 obtain⟨xs,h1,h2,h3⟩:=h;obtain⟨ad,hA,hc⟩:=h1.at_ hk;obtain⟨S,q,r,k1,k2,k3⟩:=h3 k hk;refine⟨ad,S,q,r,hA,hc _ _ k1,?_,k3⟩
 have:=hc _ _ k2;rw[←Fr]at this;exact this
theorem Ki {P:Program}{ops:Array Oper}{rest:List Oper}{o:Oper}{a:Act}{Q:Exit→Act→World→Prop}(hw:Region.wanted o (yielded ops a.tmps)=true)(ty:TypeId)(x:Operand)(ho:o.op=.load ty x)
 (g off:Nat) (hx:a.eval x=.pointer (some ⟨g,off,none⟩)) (t:TypeId) (cs vs:Array Value) (fr:Nat×Nat) (d:TypeDesc) (hg:w.heap[g]? = some (.cells cs t fr)) (hv:∀j v,vs[j]? = some v→cs[off+j]? = some v)
 (hu:P.underlying ty=some d) (hd:(match d with|.struct _|.array _ _=>true|_=>false)=true) (hi:(P.info? ty).map (·.size)=some vs.size)
 (h:wpList P ops Q rest (a.put o.dst (.agg vs)) w):wpList P ops Q (o::rest) a w:=by
 unfold wpList;rw[if_pos hw];refine .inl ?_
 unfold Oper.wp execOp;simp only[ho,hx,Instr.loadAt,Instr.sureAddr,Sem.run_bind,Sem.run_pure,Result.andThen_ok,Jg w g off t ty cs vs fr d hg hv hu hd hi];exact h
theorem xR (h:cs.size=44):∀(j:Nat) (v:Value),(cs.extract 10 37)[j]? = some v→cs[10+j]? = some v:=by
 exact I102
theorem iM (h:cs.size=44):(cs.extract 10 37).size=27:=by rw[Array.size_extract,h];rfl
theorem nS (h:cs.size=44):(Tryz.prog.info? 38).map (·.size)=some (cs.extract 10 37).size:=by rw[iM h];kernel_rfl
theorem Fe.regs' {b:Nat}{s:PS}(h:Fe w b cs s):Kn w (cs.extract 10 37) s.rl:=by
 refine⟨iM h.size,fun i hi=>?_⟩
 obtain⟨v,h1,h2⟩:=h.regs i hi;exact⟨v,by rw[Array.getElem?_extract,if_pos (by rw[h.size];omega)];exact h1,h2.sl⟩
end
