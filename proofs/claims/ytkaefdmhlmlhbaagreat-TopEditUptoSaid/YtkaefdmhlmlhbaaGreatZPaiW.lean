/-
  Part ZPaiW.
-/
import Derived.Test.YtkaefdmhlmlhbaaGreatZMotM
import Derived.Test.YtkaefdmhlmlhbaaGreatZRepl
import Derived.Test.YtkaefdmhlmlhbaaGreatZConc
import Derived.Deep.DeepCutAuto
import Derived.Deep.CutRange
import Derived.Deep.CutBlock
import Derived.Deep.RegionLaw
set_option maxRecDepth 100000
set_option maxHeartbeats 16000000
set_option linter.unusedVariables false
set_option linter.unusedSimpArgs false
namespace Go.Proofs.YtkaefdmhlmlhbaaGreat
open Go.RowKit
open _root_.Nat renaming le_refl→Aj,lt_or_ge→Ay
section
variable {a b:List Int}{j:Nat×List Int}{B:Option Addr}{w w0:World}{g:Nat}
theorem J0s {y k:Nat}(h:k<y)(e:gI a k=gI b k):Wl a b y (y-k) k=Wl a b y (y-(k+1)) (k+1):=by
 obtain⟨f,hf⟩:∃f,y-k=f+1:=⟨y-k-1,by omega⟩
 rw[hf,show y-(k+1)=f by omega]
 simp[Wl,e]
theorem oE {y k:Nat}(e:k<y→gI a k≠gI b k):Wl a b y (y-k) k=k:=by
 rcases Ay k y with h|h
 ·obtain⟨f,hf⟩:∃f,y-k=f+1:=⟨y-k-1,by omega⟩
  rw[hf];simp[Wl,e h]
 ·rw[show y-k=0 by omega];rfl
theorem J0t {x j:Nat}(h:x<j)(e:gI a (j-1)=gI b (j-1)):Wm a b x (j-x) j=Wm a b x (j-1-x) (j-1):=by
 obtain⟨f,hf⟩:∃f,j-x=f+1:=⟨j-x-1,by omega⟩
 rw[hf,show j-1-x=f by omega]
 simp[Wm,e]
theorem oF {x j:Nat}(e:x<j→gI a (j-1)≠gI b (j-1)):Wm a b x (j-x) j=j:=by
 rcases Ay x j with h|h
 ·obtain⟨f,hf⟩:∃f,j-x=f+1:=⟨j-x-1,by omega⟩
  rw[hf];simp[Wm,e h]
 ·rw[show j-x=0 by omega];rfl
def xX (w:World)(k j:Nat)(e:Ending)(w':World):Prop:=e=.returned (.tuple #[.int .i64 k,.int .i64 j,.bool (decide (k<j))])∧∃z,w'=w.drewN z
theorem Z5 {A B:Option Addr}{n m c d x y:Nat}(ha:Bl w A n c a)(hb:Bl w B m d b)(hxy:x≤y)(hyn:y≤n)(hym:y≤m):
 Calls Tryz.prog 103 #[.slice A n c,.slice B m d,.int .i64 x,.int .i64 y] w (xX w (Ew a b x y) (Gu a b x y)):=by
 have hnc:=ha.ncap;have hcm:=ha.nmax;have hmd:=hb.ncap;have hdm:=hb.nmax;unfold maxLen at hcm hdm;go_enter Tryz.func103,Tryz.ntmps103
 go_upto_block 0 with fail
 go_cut [2] (fun s2 wx=>∃k:Nat,x≤k∧k≤y∧s2=.int .i64 k∧Hid (Ew a b x y=k)∧∃z,wx=w.drewN z)
 case first=>
  go_wp2_with fail
  go_loopw [2] (fun v wr=>∃k:Nat,x≤k∧k≤y∧v=.int .i64 k∧Hid (Ew a b x y=Wl a b y (y-k) k)∧∃z,wr=w.drewN z) (fun v _=>y-(intOf v).toNat)
  case atStart=>exact⟨x,by omega,by omega,rfl,A6 rfl,0,rfl⟩
  case round=>
   obtain⟨k,hxk,hky,rfl,HD,z,rfl⟩:=hrel;by_cases hlt:k<y
   ·obtain⟨a1,rfl,hc1⟩:=ha.at_ (k:=k) (by omega)
    obtain⟨a2,rfl,hc2⟩:=hb.at_ (k:=k) (by omega)
    have c1:=hc1 k (by omega)
    have c2:=hc2 k (by omega)
    have d1:decide (k<y)=true:=by simpa using hlt
    have d2:decide ((k:Int)<(y:Int))=true:=by simp;omega
    have kn:k<n:=by omega
    have km:k<m:=by omega
    by_cases heq:gI a k=gI b k
    ·have HN2:Hid (Ew a b x y=Wl a b y (y-(k+1)) (k+1)):=A6 (by rw[HD.out,J0s hlt heq])
     have b1:(gI a k==gI b k)=true:=by simpa using heq
     clear hc1 hc2 HD heq;go_wp2_with fail
     go_quiet (fail)
     go_wp2_with fail
     go_roundw
     case rel=>exact⟨k+1,by omega,by omega,by go_num,HN2,z+nq,by first|exact Q0 _ _ _|rfl⟩
     case measure=>simp[intOf];omega
    ·have HN2:Hid (Ew a b x y=k):=A6 (by rw[HD.out,oE (fun _=>heq)])
     have b1:(gI a k==gI b k)=false:=by simpa using heq
     clear hc1 hc2 HD heq;exact I73
   ·have d1:decide (k<y)=false:=by simpa using hlt
    have d2:decide ((k:Int)<(y:Int))=false:=by simp;omega
    have HN2:Hid (Ew a b x y=k):=A6 (by rw[HD.out,oE (fun h=>absurd h hlt)])
    clear HD;exact I73
 case rest=>
  obtain⟨k,hxk,hky,rfl,HD,z,rfl⟩:=hcut;go_upto_block 2 with fail
  go_cut [3] (fun s3 wx=>∃j:Nat,k≤j∧j≤y∧s3=.int .i64 j∧Hid (Gu a b x y=j)∧∃z',wx=w.drewN z')
  case first=>
   go_wp2_with fail
   go_loopw [3] (fun v wr=>∃j:Nat,k≤j∧j≤y∧v=.int .i64 j∧Hid (Gu a b x y=Wm a b k (j-k) j)∧∃z',wr=w.drewN z') (fun v _=>(intOf v).toNat)
   case atStart=>exact⟨y,by omega,by omega,rfl,A6 (by unfold Gu;rw[HD.out]),z,rfl⟩
   case round=>
    obtain⟨j,hkj,hjy,rfl,HJ,z',rfl⟩:=hrel;by_cases hlt:k<j
    ·obtain⟨a1,rfl,hc1⟩:=ha.at_ (k:=j-1) (by omega)
     obtain⟨a2,rfl,hc2⟩:=hb.at_ (k:=j-1) (by omega)
     have c1:=hc1 (j-1) (by omega)
     have c2:=hc2 (j-1) (by omega)
     have HST:Hid (gI a (j-1)=gI b (j-1)→Gu a b x y=Wm a b k (j-1-k) (j-1)):=A6 (fun e=>by rw[HJ.out,J0t hlt e])
     have HSN:Hid (gI a (j-1)≠gI b (j-1)→Gu a b x y=j):=A6 (fun e=>by rw[HJ.out,oF (fun _=>e)])
     obtain⟨p,hp⟩:∃p,p=j-1:=⟨_,rfl⟩;rw[←hp]at c1 c2 HST HSN;have hw1:IntKind.i64.wrap ((j:Int)-1)=(p:Int):=by rw[IntWalk.i64_in _ (by omega)];omega
     have hpn:p<n:=by omega
     have hpm:p<m:=by omega
     have HP:=A6 hp;have d1:decide (k<j)=true:=by simpa using hlt
     have d2:decide ((k:Int)<(j:Int))=true:=by simp;omega
     have hkp:k≤p:=by omega
     have hpy:p≤y:=by omega
     have hpj:p<j:=by omega
     clear hp;by_cases heq:gI a p=gI b p
     ·have HN2:=A6 (HST.out heq)
      have b1:(gI a p==gI b p)=true:=by simpa using heq
      clear hc1 hc2 HST HSN HJ heq;go_wp2_with fail
      go_quiet (fail)
      go_wp2_with fail
      go_roundw
      case rel=>exact⟨p,hkp,hpy,by have:=HP.out;first|rfl|(congr 1;omega),HN2,z'+nq,by first|exact Q0 _ _ _|rfl⟩
      case measure=>have:=HP.out;simp[intOf];omega
     ·have HN2:=A6 (HSN.out heq)
      have b1:(gI a p==gI b p)=false:=by simpa using heq
      clear hc1 hc2 HST HSN HJ heq;exact I71
    ·have d1:decide (k<j)=false:=by simpa using hlt
     have d2:decide ((k:Int)<(j:Int))=false:=by simp;omega
     have HN2:Hid (Gu a b x y=j):=A6 (by rw[HJ.out,oF (fun h=>absurd h hlt)])
     clear HJ;exact I71
  case rest=>
   obtain⟨j,hkj,hjy,rfl,HJ,z',rfl⟩:=hcut;go_wp2_with fail
   go_ret3
   rw[HD.out,HJ.out];exact⟨by simp,z',rfl⟩
def xU (w:World)(l:List Int)(e:Ending)(w':World):Prop:=(∃R q r,e=.returned (.slice R q r)∧Bl w' R q r l)∧An w w'
theorem yM {A:Option Addr}{n c x y:Nat}(hb:Bl w A n c b)(hA:A=none→c=0)(hn:n≤120)(hx:x≤n)(hy:y≤n):
 Calls Tryz.prog 142 #[.slice A n c,.int .i64 x,.int .i64 y] w (xU w (G9 b x y)):=by
 obtain⟨i0,hi,hz0,hz1,hz2⟩:=info_parts Cb;have hnc:=hb.ncap;have hcm:=hb.nmax;unfold maxLen at hcm;by_cases hxy:x≤y
 ·have HW:Hid (G9 b x y=(b.drop x).take (y-x)):=A6 (by unfold G9;rw[if_pos hxy])
  have hcut:=Ux A n c x y hxy (by omega)
  have HC:=A6 (D3 (hb.cutA hxy hy) (Y8 hA) (by omega))
  clear hb hA;go_enter Tryz.func142,Tryz.ntmps142
  go_wp2_with fail
  refine HC.out.mono ?_
  rintro e w1 ⟨R,r,rfl,ho,_,he⟩;clear HC hcut;go_wp2_with fail
  go_ret
  exact⟨⟨R,_,r,rfl,by rw[HW.out];exact ho.ints⟩,he⟩
 ·by_cases hb2:x-y≤1+y
  ·have HW:Hid (G9 b x y=List.replicate (x-y) 8):=A6 (by unfold G9;rw[if_neg hxy,if_pos hb2])
   obtain⟨q,hq⟩:∃q,q=x-y:=⟨_,rfl⟩;have hq1:(x:Int)-(y:Int)=(q:Int):=by omega
   have hq2:(q:Int)≤1+(y:Int):=by omega
   have hq3:q≤1000000:=by omega
   have hx0:=A6 (An.alloc w (.cells #[.int .i64 8] 3));have HC:=A6 (Xj (n:=q) (Bl.litAt w 3 [8] rfl rfl (by omega)) hq3)
   rw[←hq]at HW;have hxy2:y<x:=by omega
   clear hb hA hq hb2;go_enter Tryz.func142,Tryz.ntmps142
   go_wp2_with fail
   refine HC.out.mono ?_
   rintro e w1 ⟨⟨g,rfl,ho⟩,he⟩;clear HC;go_wp2_with fail
   go_ret
   exact⟨⟨_,_,_,rfl,by rw[HW.out];exact ho.ints⟩,hx0.out.trans he⟩
  ·have HW:Hid (G9 b x y=13::b.take y):=A6 (by unfold G9;rw[if_neg hxy,if_neg hb2])
   obtain⟨q,hq⟩:∃q,q=x-y:=⟨_,rfl⟩;have hq1:(x:Int)-(y:Int)=(q:Int):=by omega
   have hq2:1+(y:Int)<(q:Int):=by omega
   have hxy2:y<x:=by omega
   have hown0:Bd (w.alloc (.cells #[.int .i64 13] 3)) w.heap.size 3 1 (some ⟨w.heap.size,0,none⟩) 1 1 [.int .i64 13]:=
    ⟨rfl,.inr ⟨w.heap.size,1,#[.int .i64 13],rfl,Aj _,heap_alloc_new w _,Aj _,by unfold maxLen;omega,rfl,rfl⟩⟩
   have hx0:=An.alloc w (.cells #[.int .i64 13] 3);have hfr:=(hb.front (k:=y) hy).ext hx0;have HFR:=A6 hfr;clear hq hb2 hb hA hfr;go_enter Tryz.func142,Tryz.ntmps142
   go_wp2_with (at_builtin;refine Ep rfl _ _ 25 rfl w w.heap.size 3 i0 (.int .i64 0) 1 8 Tryz.underlying25 hi hz0 hz1 hz2 rfl (by decide) (some ⟨w.heap.size,0,none⟩) 1 1 _ rfl hown0 A y c _ rfl HFR.out HFR.out.one ?_ ?_ hx0 (Aj _) hx0.hsize ?_)
   ·unfold maxLen;omega
   ·omega
   ·intro A2 c2 w2 k1 k2 k3 k4
    have h1:Av w2 w.heap.size A2 (1+y) c2 (13::b.take y):=by simpa[Av]using k1
    have HO:=A6 h1;clear k1 k2 k3 h1 hown0 hx0;go_wp2_with fail
    go_ret
    exact⟨⟨_,_,_,rfl,by rw[HW.out];exact HO.out.ints⟩,k4⟩
def No (w:World)(g:Nat)(B:Option Addr)(m d:Nat)(j:Nat×List Int):Prop:=∃S q r,Aq w g 178 #[.slice B m d,.int .i64 (j.1:Int),.slice S q r]∧Av w (g+1) S q r j.2
def D1 (w w':World)(g:Nat):Prop:=∀w0:World,An w0 w→w0.heap.size≤g→An w0 w'
theorem D1.trans {a b c:World}(h:D1 a b g)(k:D1 b c g):D1 a c g:=fun w0 h0 h1=>k w0 (h w0 h0 h1) h1
theorem D1.ext {a b:World}(h:An a b):D1 a b g:=fun w0 h0 _=>h0.trans h
theorem D1.set {g i:Nat}{u:Value}:D1 w (w.setCell ⟨g,i,none⟩ u) g:=fun w0 h0 h1=>h0.setCell h1 _
theorem No.ext {w w':World}{m d:Nat}(h:No w g B m d j)(he:An w w'):No w' g B m d j:=
 let ⟨S,q,r,h1,h2⟩:=h;⟨S,q,r,h1.ext he,Av.ext h2 he⟩
theorem Lo {g t:Nat}{u v s:Value}(h:Aq w g t #[u,v,s]):w.cell? ⟨g,0,none⟩=some u∧w.cell? ⟨g,1,none⟩=some v∧w.cell? ⟨g,2,none⟩=some s:=⟨h.cell 0,h.cell 1,h.cell 2⟩
theorem Sj {x y:Nat}(hx:x≤120)(hy:y≤120):(G9 b x y).length≤121:=by
 unfold G9;split
 ·rw[List.length_take];omega
 ·exact I97
theorem xJ {g m d k:Nat}(h:No w g B m d j)(hb:Bl w0 B m d b)(hB:B=none→d=0)(hx:An w0 w)(hg:w0.heap.size≤g)(hm:m≤120)(hj:j.1≤m)(hk:k≤m)(hz:j.2.length≤1000000):
 Calls Tryz.prog 104 #[.pointer (some ⟨g,0,none⟩),.int .i64 k] w fun e w'=>e=.returned (.pointer (some ⟨g,0,none⟩))∧No w' g B m d (J5 b j k)∧D1 w w' g:=by
 obtain⟨i0,hi,hz0,hz1,hz2⟩:=info_parts Cb;obtain⟨x,sg⟩:=j;have hj:x≤m:=hj;have hz:sg.length≤1000000:=hz;obtain⟨S,q,r,hbk,hown⟩:=h;have hbk:Aq w g 178 #[.slice B m d,.int .i64 (x:Int),.slice S q r]:=hbk;have hq:q≤1000000:=by have:sg.length=q:=(Av.ints hown).len;omega
 have hgw:=hbk.lt;have HW:Hid (∀wq,An w0 wq→Calls Tryz.prog 142 #[.slice B m d,.int .i64 x,.int .i64 k] wq (xU wq (G9 b x k))):=A6 fun wq he=>yM (hb.ext he) hB hm hj hk
 have HWS:=A6 (Sj (b:=b) (x:=x) (y:=k) (by omega) (by omega))
 have HBK:=A6 hbk;have HOW:=A6 hown;have HX:=A6 hx;obtain⟨c0,c1,c2⟩:=Lo hbk;have HOB:Hid (∀k,(Value.slice S q r).ownBlock=some k→g+1≤k):=A6 fun k hk=>(Bd.blk hown k hk).1
 clear hbk hown hb hB hz hx;have hlen:Hid (J5 b (x,sg) k=(k,sg++G9 b x k)):=A6 rfl;go_enter Tryz.func104,Tryz.ntmps104
 go_wp2_with fail
 go_region_law (first
  |(
   refine By rfl 142 #[.slice B m d,.int .i64 (x:Int),.int .i64 (k:Int)] rfl (by kernel_rfl) (fun v w'=>∃R p r',v=.slice R p r'∧Bl w' R p r' (G9 b x k)∧An w.drew w') ((HW.out _ HX.out.to_drew).mono fun e w' ⟨⟨R,p,r',h1,h2⟩,h3⟩=>⟨_,h1,R,p,r',rfl,h2,h3⟩) ?_
   rintro v w1 ⟨R,p,r',rfl,hI,he1⟩;have hp:p≤121:=by have h1:=HWS.out;rw[hI.len]at h1;exact h1
   have hbk1:=(HBK.out.ext (An.drew w)).ext he1;obtain⟨d0,d1,d2⟩:=Lo hbk1;have hown1:=Av.ext (Av.ext HOW.out (An.drew w)) he1;have hx1:=HX.out.to_drew.trans he1;have hg1:g+1≤w1.heap.size:=hbk1.lt)
  |(
   refine Rj rfl (.tmp 9) (.tmp 19) 25 rfl w0 (g+1) 3 i0 _ 1 8 Tryz.underlying25 hi hz0 hz1 hz2 rfl (by decide) S q r _ rfl hown1 R p r' _ rfl hI hI.one (by unfold maxLen;omega) (by omega) hx1 (by omega) hg1 ?_
   intro S2 r2 w2 hO2 hgr hor hx2;have hbk2:=hbk1.grown hgr (fun e=>by have:=HOB.out g e.symm;omega)
   obtain⟨e0,e1,e2⟩:=Lo hbk2;have f2:=hbk2.frozen 2;have hK2:Hid (D1 w w2 g):=A6 (fun w9 h9 h8=>An.grown ((h9.to_drew).trans he1) hgr hown1 (by omega))))
 all_goals
  have hbk3:Aq (w2.setCell ⟨g,2,none⟩ (.slice S2 (q+p) r2)) g 178 #[.slice B m d,.int .i64 (x:Int),.slice S2 (q+p) r2]:=hbk2.set_ 2 (.slice S2 (q+p) r2);have hown3:=Bd.setCell hO2 (p:=⟨g,2,none⟩) (show g<g+1 by omega) (.slice S2 (q+p) r2)
  have hK3:Hid (D1 w (w2.setCell ⟨g,2,none⟩ (.slice S2 (q+p) r2)) g):=A6 (hK2.out.trans D1.set);have hO3:Hid (Av (w2.setCell ⟨g,2,none⟩ (.slice S2 (q+p) r2)) (g+1) S2 (q+p) r2 (sg++G9 b x k)):=A6 (by simpa[Av]using hown3)
  have hB3:=A6 hbk3;clear hbk1 d0 d1 d2 hown1 hx1 hg1 hO2 hgr hor hx2 hbk2 e0 e1 e2 f2 hK2 hown3 hI he1 c0 c1 c2 HBK HOW HX HW hbk3
  revert hK3 hO3 hB3
  generalize w2.setCell ⟨g,2,none⟩ (.slice S2 (q+p) r2)=w3;intro hK3 hO3 hB3;have f1:=hB3.out.frozen 1;obtain⟨e0,e1,e2⟩:=Lo hB3.out;have hB4:Hid (Aq (w3.setCell ⟨g,1,none⟩ (.int .i64 (k:Int))) g 178 #[.slice B m d,.int .i64 (k:Int),.slice S2 (q+p) r2]):=A6 (hB3.out.set_ 1 _);have hO4:=A6 (Bd.setCell hO3.out (p:=⟨g,1,none⟩) (show g<g+1 by omega) (.int .i64 (k:Int)))
  go_wp2_with fail
  go_ret
  exact⟨rfl,by rw[hlen.out];exact⟨S2,_,r2,hB4.out,hO4.out⟩,hK3.out.trans D1.set⟩
theorem pZ {g m d u v:Nat}(h:No w g B m d j)(hb:Bl w0 B m d b)(hB:B=none→d=0)(hx:An w0 w)(hg:w0.heap.size≤g)(hm:m≤120)(hj:j.1≤m)(huv:u≤v)(hv:v≤m)(hz:j.2.length≤900000):
 Calls Tryz.prog 105 #[.pointer (some ⟨g,0,none⟩),.int .i64 u,.int .i64 v] w fun e w'=>e=.returned (.pointer (some ⟨g,0,none⟩))∧No w' g B m d (Dg b j u v)∧D1 w w' g:=by
 have N0:=trivial;exact tL
theorem lW {g m d u:Nat}(h:No w g B m d j)(hb:Bl w0 B m d b)(hB:B=none→d=0)(hx:An w0 w)(hg:w0.heap.size≤g)(hm:m≤120)(hj:j.1≤m)(hu:u≤m)(hz:j.2.length≤900000):
 Calls Tryz.prog 106 #[.pointer (some ⟨g,0,none⟩),.int .i64 u] w fun e w'=>e=.returned (.pointer (some ⟨g,0,none⟩))∧No w' g B m d (Df b j u)∧D1 w w' g:=by
 have N1:=trivial;exact tL
end
