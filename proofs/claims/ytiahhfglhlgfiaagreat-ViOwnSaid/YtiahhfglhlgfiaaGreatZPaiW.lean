/-
  Part ZPaiW.
-/
import Derived.Test.YtiahhfglhlgfiaaGreatZConc
import Derived.Test.YtiahhfglhlgfiaaGreatZRepl
import Derived.Deep.DeepCutAuto
import Derived.Deep.CutRange
import Derived.Deep.CutBlock
import Derived.Deep.RegionLaw
set_option maxRecDepth 100000
set_option maxHeartbeats 16000000
set_option linter.unusedVariables false
set_option linter.unusedSimpArgs false
namespace Go.Proofs.YtiahhfglhlgfiaaGreat
open Go.RowKit
open _root_.Nat renaming le_refl→Ai,lt_or_ge→At
section
variable {a b:List Int}{j:Nat×List Int}{B:Option Addr}{w w0:World}{g:Nat}
theorem wF {y k:Nat}(h:k<y)(e:gI a k=gI b k):Us a b y (y-k) k=Us a b y (y-(k+1)) (k+1):=by
 obtain⟨f,hf⟩:∃f,y-k=f+1:=⟨y-k-1,by omega⟩
 rw[hf,show y-(k+1)=f by omega]
 simp[Us,e]
theorem lC {y k:Nat}(e:k<y→gI a k≠gI b k):Us a b y (y-k) k=k:=by
 rcases At k y with h|h
 ·obtain⟨f,hf⟩:∃f,y-k=f+1:=⟨y-k-1,by omega⟩
  rw[hf];simp[Us,e h]
 ·rw[show y-k=0 by omega];rfl
theorem wG {x j:Nat}(h:x<j)(e:gI a (j-1)=gI b (j-1)):Ut a b x (j-x) j=Ut a b x (j-1-x) (j-1):=by
 obtain⟨f,hf⟩:∃f,j-x=f+1:=⟨j-x-1,by omega⟩
 rw[hf,show j-1-x=f by omega]
 simp[Ut,e]
theorem lD {x j:Nat}(e:x<j→gI a (j-1)≠gI b (j-1)):Ut a b x (j-x) j=j:=by
 rcases At x j with h|h
 ·obtain⟨f,hf⟩:∃f,j-x=f+1:=⟨j-x-1,by omega⟩
  rw[hf];simp[Ut,e h]
 ·rw[show j-x=0 by omega];rfl
def tQ (w:World)(k j:Nat)(e:Ending)(w':World):Prop:=e=.returned (.tuple #[.int .i64 k,.int .i64 j,.bool (decide (k<j))])∧∃z,w'=w.drewN z
theorem Xr {A B:Option Addr}{n m c d x y:Nat}(ha:Bi w A n c a)(hb:Bi w B m d b)(hxy:x≤y)(hyn:y≤n)(hym:y≤m):
 Calls Tryz.prog 67 #[.slice A n c,.slice B m d,.int .i64 x,.int .i64 y] w (tQ w (Ei a b x y) (G4 a b x y)):=by
 have hnc:=ha.ncap;have hcm:=ha.nmax;have hmd:=hb.ncap;have hdm:=hb.nmax;unfold maxLen at hcm hdm;go_enter Tryz.func67,Tryz.ntmps67
 go_upto_block 0 with fail
 go_cut [2] (fun s2 wx=>∃k:Nat,x≤k∧k≤y∧s2=.int .i64 k∧Hid (Ei a b x y=k)∧∃z,wx=w.drewN z)
 case first=>
  go_wp2_with fail
  go_loopw [2] (fun v wr=>∃k:Nat,x≤k∧k≤y∧v=.int .i64 k∧Hid (Ei a b x y=Us a b y (y-k) k)∧∃z,wr=w.drewN z) (fun v _=>y-(intOf v).toNat)
  case atStart=>exact⟨x,by omega,by omega,rfl,A4 rfl,0,rfl⟩
  case round=>
   obtain⟨k,hxk,hky,rfl,HD,z,rfl⟩:=hrel;by_cases hlt:k<y
   ·obtain⟨a1,rfl,hc1⟩:=ha.at_ (k:=k) (by omega)
    obtain⟨a2,rfl,hc2⟩:=hb.at_ (k:=k) (by omega)
    have c1:=hc1 k (by omega)
    have c2:=hc2 k (by omega)
    have d1:decide (k<y)=true:=by simpa using hlt
    have d2:decide ((k:Int)<(y:Int))=true:=by simp;omega
    have kn:k<n:=by omega
    have km:k<m:=by omega
    by_cases heq:gI a k=gI b k
    ·have HN2:Hid (Ei a b x y=Us a b y (y-(k+1)) (k+1)):=A4 (by rw[HD.out,wF hlt heq])
     have b1:(gI a k==gI b k)=true:=by simpa using heq
     clear hc1 hc2 HD heq;go_wp2_with fail
     go_quiet (fail)
     go_wp2_with fail
     go_roundw
     case rel=>exact⟨k+1,by omega,by omega,by go_num,HN2,z+nq,by first|exact No _ _ _|rfl⟩
     case measure=>simp[intOf];omega
    ·have HN2:Hid (Ei a b x y=k):=A4 (by rw[HD.out,lC (fun _=>heq)])
     have b1:(gI a k==gI b k)=false:=by simpa using heq
     clear hc1 hc2 HD heq;exact I71
   ·have d1:decide (k<y)=false:=by simpa using hlt
    have d2:decide ((k:Int)<(y:Int))=false:=by simp;omega
    have HN2:Hid (Ei a b x y=k):=A4 (by rw[HD.out,lC (fun h=>absurd h hlt)])
    clear HD;exact I71
 case rest=>
  obtain⟨k,hxk,hky,rfl,HD,z,rfl⟩:=hcut;go_upto_block 2 with fail
  go_cut [3] (fun s3 wx=>∃j:Nat,k≤j∧j≤y∧s3=.int .i64 j∧Hid (G4 a b x y=j)∧∃z',wx=w.drewN z')
  case first=>
   go_wp2_with fail
   go_loopw [3] (fun v wr=>∃j:Nat,k≤j∧j≤y∧v=.int .i64 j∧Hid (G4 a b x y=Ut a b k (j-k) j)∧∃z',wr=w.drewN z') (fun v _=>(intOf v).toNat)
   case atStart=>exact⟨y,by omega,by omega,rfl,A4 (by unfold G4;rw[HD.out]),z,rfl⟩
   case round=>
    obtain⟨j,hkj,hjy,rfl,HJ,z',rfl⟩:=hrel;by_cases hlt:k<j
    ·obtain⟨a1,rfl,hc1⟩:=ha.at_ (k:=j-1) (by omega)
     obtain⟨a2,rfl,hc2⟩:=hb.at_ (k:=j-1) (by omega)
     have c1:=hc1 (j-1) (by omega)
     have c2:=hc2 (j-1) (by omega)
     have HST:Hid (gI a (j-1)=gI b (j-1)→G4 a b x y=Ut a b k (j-1-k) (j-1)):=A4 (fun e=>by rw[HJ.out,wG hlt e])
     have HSN:Hid (gI a (j-1)≠gI b (j-1)→G4 a b x y=j):=A4 (fun e=>by rw[HJ.out,lD (fun _=>e)])
     obtain⟨p,hp⟩:∃p,p=j-1:=⟨_,rfl⟩;rw[←hp]at c1 c2 HST HSN;have hw1:IntKind.i64.wrap ((j:Int)-1)=(p:Int):=by rw[IntWalk.i64_in _ (by omega)];omega
     have hpn:p<n:=by omega
     have hpm:p<m:=by omega
     have HP:=A4 hp;have d1:decide (k<j)=true:=by simpa using hlt
     have d2:decide ((k:Int)<(j:Int))=true:=by simp;omega
     have hkp:k≤p:=by omega
     have hpy:p≤y:=by omega
     have hpj:p<j:=by omega
     clear hp;by_cases heq:gI a p=gI b p
     ·have HN2:=A4 (HST.out heq)
      have b1:(gI a p==gI b p)=true:=by simpa using heq
      clear hc1 hc2 HST HSN HJ heq;go_wp2_with fail
      go_quiet (fail)
      go_wp2_with fail
      go_roundw
      case rel=>exact⟨p,hkp,hpy,by have:=HP.out;first|rfl|(congr 1;omega),HN2,z'+nq,by first|exact No _ _ _|rfl⟩
      case measure=>have:=HP.out;simp[intOf];omega
     ·have HN2:=A4 (HSN.out heq)
      have b1:(gI a p==gI b p)=false:=by simpa using heq
      clear hc1 hc2 HST HSN HJ heq;exact I69
    ·have d1:decide (k<j)=false:=by simpa using hlt
     have d2:decide ((k:Int)<(j:Int))=false:=by simp;omega
     have HN2:Hid (G4 a b x y=j):=A4 (by rw[HJ.out,lD (fun h=>absurd h hlt)])
     clear HJ;exact I69
  case rest=>
   obtain⟨j,hkj,hjy,rfl,HJ,z',rfl⟩:=hcut;go_wp2_with fail
   go_ret3
   rw[HD.out,HJ.out];exact⟨by simp,z',rfl⟩
def tN (w:World)(l:List Int)(e:Ending)(w':World):Prop:=(∃R q r,e=.returned (.slice R q r)∧Bi w' R q r l)∧Al w w'
theorem uE {A:Option Addr}{n c x y:Nat}(hb:Bi w A n c b)(hA:A=none→c=0)(hn:n≤120)(hx:x≤n)(hy:y≤n):
 Calls Tryz.prog 97 #[.slice A n c,.int .i64 x,.int .i64 y] w (tN w (Ff b x y)):=by
 obtain⟨i0,hi,hz0,hz1,hz2⟩:=info_parts Bz;have hnc:=hb.ncap;have hcm:=hb.nmax;unfold maxLen at hcm;by_cases hxy:x≤y
 ·have HW:Hid (Ff b x y=(b.drop x).take (y-x)):=A4 (by unfold Ff;rw[if_pos hxy])
  have hcut:=To A n c x y hxy (by omega)
  have HC:=A4 (Cy (hb.cutA hxy hy) (Wk hA) (by omega))
  clear hb hA;go_enter Tryz.func97,Tryz.ntmps97
  go_wp2_with fail
  refine HC.out.mono ?_
  rintro e w1 ⟨R,r,rfl,ho,_,he⟩;clear HC hcut;go_wp2_with fail
  go_ret
  exact⟨⟨R,_,r,rfl,by rw[HW.out];exact ho.ints⟩,he⟩
 ·by_cases hb2:x-y≤1+y
  ·have HW:Hid (Ff b x y=List.replicate (x-y) 8):=A4 (by unfold Ff;rw[if_neg hxy,if_pos hb2])
   obtain⟨q,hq⟩:∃q,q=x-y:=⟨_,rfl⟩;have hq1:(x:Int)-(y:Int)=(q:Int):=by omega
   have hq2:(q:Int)≤1+(y:Int):=by omega
   have hq3:q≤1000000:=by omega
   have hx0:=A4 (Al.alloc w (.cells #[.int .i64 8] 3));have HC:=A4 (Vn (n:=q) (Bi.litAt w 3 [8] rfl rfl (by omega)) hq3)
   rw[←hq]at HW;have hxy2:y<x:=by omega
   clear hb hA hq hb2;go_enter Tryz.func97,Tryz.ntmps97
   go_wp2_with fail
   refine HC.out.mono ?_
   rintro e w1 ⟨⟨g,rfl,ho⟩,he⟩;clear HC;go_wp2_with fail
   go_ret
   exact⟨⟨_,_,_,rfl,by rw[HW.out];exact ho.ints⟩,hx0.out.trans he⟩
  ·have HW:Hid (Ff b x y=13::b.take y):=A4 (by unfold Ff;rw[if_neg hxy,if_neg hb2])
   obtain⟨q,hq⟩:∃q,q=x-y:=⟨_,rfl⟩;have hq1:(x:Int)-(y:Int)=(q:Int):=by omega
   have hq2:1+(y:Int)<(q:Int):=by omega
   have hxy2:y<x:=by omega
   have hown0:Ay (w.alloc (.cells #[.int .i64 13] 3)) w.heap.size 3 1 (some ⟨w.heap.size,0,none⟩) 1 1 [.int .i64 13]:=
    ⟨rfl,.inr ⟨w.heap.size,1,#[.int .i64 13],rfl,Ai _,heap_alloc_new w _,Ai _,by unfold maxLen;omega,rfl,rfl⟩⟩
   have hx0:=Al.alloc w (.cells #[.int .i64 13] 3);have hfr:=(hb.front (k:=y) hy).ext hx0;have HFR:=A4 hfr;clear hq hb2 hb hA hfr;go_enter Tryz.func97,Tryz.ntmps97
   go_wp2_with (at_builtin;refine Fn rfl _ _ 27 rfl w w.heap.size 3 i0 (.int .i64 0) 1 8 Tryz.underlying27 hi hz0 hz1 hz2 rfl (by decide) (some ⟨w.heap.size,0,none⟩) 1 1 _ rfl hown0 A y c _ rfl HFR.out HFR.out.one ?_ ?_ hx0 (Ai _) hx0.hsize ?_)
   ·unfold maxLen;omega
   ·omega
   ·intro A2 c2 w2 k1 k2 k3 k4
    have h1:Av w2 w.heap.size A2 (1+y) c2 (13::b.take y):=by simpa[Av]using k1
    have HO:=A4 h1;clear k1 k2 k3 h1 hown0 hx0;go_wp2_with fail
    go_ret
    exact⟨⟨_,_,_,rfl,by rw[HW.out];exact HO.out.ints⟩,k4⟩
def Mb (w:World)(g:Nat)(B:Option Addr)(m d:Nat)(j:Nat×List Int):Prop:=∃S q r,An w g 129 #[.slice B m d,.int .i64 (j.1:Int),.slice S q r]∧Av w (g+1) S q r j.2
def Cv (w w':World)(g:Nat):Prop:=∀w0:World,Al w0 w→w0.heap.size≤g→Al w0 w'
theorem Cv.trans {a b c:World}(h:Cv a b g)(k:Cv b c g):Cv a c g:=fun w0 h0 h1=>k w0 (h w0 h0 h1) h1
theorem Cv.ext {a b:World}(h:Al a b):Cv a b g:=fun w0 h0 _=>h0.trans h
theorem Cv.set {g i:Nat}{u:Value}:Cv w (w.setCell ⟨g,i,none⟩ u) g:=fun w0 h0 h1=>h0.setCell h1 _
theorem Mb.ext {w w':World}{m d:Nat}(h:Mb w g B m d j)(he:Al w w'):Mb w' g B m d j:=
 let ⟨S,q,r,h1,h2⟩:=h;⟨S,q,r,h1.ext he,Av.ext h2 he⟩
theorem Ku {g t:Nat}{u v s:Value}(h:An w g t #[u,v,s]):w.cell? ⟨g,0,none⟩=some u∧w.cell? ⟨g,1,none⟩=some v∧w.cell? ⟨g,2,none⟩=some s:=⟨h.cell 0,h.cell 1,h.cell 2⟩
theorem R6 {x y:Nat}(hx:x≤120)(hy:y≤120):(Ff b x y).length≤121:=by
 unfold Ff;split
 ·rw[List.length_take];omega
 ·exact I96
theorem tF {g m d k:Nat}(h:Mb w g B m d j)(hb:Bi w0 B m d b)(hB:B=none→d=0)(hx:Al w0 w)(hg:w0.heap.size≤g)(hm:m≤120)(hj:j.1≤m)(hk:k≤m)(hz:j.2.length≤1000000):
 Calls Tryz.prog 68 #[.pointer (some ⟨g,0,none⟩),.int .i64 k] w fun e w'=>e=.returned (.pointer (some ⟨g,0,none⟩))∧Mb w' g B m d (H7 b j k)∧Cv w w' g:=by
 obtain⟨i0,hi,hz0,hz1,hz2⟩:=info_parts Bz;obtain⟨x,sg⟩:=j;have hj:x≤m:=hj;have hz:sg.length≤1000000:=hz;obtain⟨S,q,r,hbk,hown⟩:=h;have hbk:An w g 129 #[.slice B m d,.int .i64 (x:Int),.slice S q r]:=hbk;have hq:q≤1000000:=by have:sg.length=q:=(Av.ints hown).len;omega
 have hgw:=hbk.lt;have HW:Hid (∀wq,Al w0 wq→Calls Tryz.prog 97 #[.slice B m d,.int .i64 x,.int .i64 k] wq (tN wq (Ff b x k))):=A4 fun wq he=>uE (hb.ext he) hB hm hj hk
 have HWS:=A4 (R6 (b:=b) (x:=x) (y:=k) (by omega) (by omega))
 have HBK:=A4 hbk;have HOW:=A4 hown;have HX:=A4 hx;obtain⟨c0,c1,c2⟩:=Ku hbk;have HOB:Hid (∀k,(Value.slice S q r).ownBlock=some k→g+1≤k):=A4 fun k hk=>(Ay.blk hown k hk).1
 clear hbk hown hb hB hz hx;have hlen:Hid (H7 b (x,sg) k=(k,sg++Ff b x k)):=A4 rfl;go_enter Tryz.func68,Tryz.ntmps68
 go_wp2_with fail
 go_region_law (first
  |(
   refine Bs rfl 97 #[.slice B m d,.int .i64 (x:Int),.int .i64 (k:Int)] rfl (by kernel_rfl) (fun v w'=>∃R p r',v=.slice R p r'∧Bi w' R p r' (Ff b x k)∧Al w.drew w') ((HW.out _ HX.out.to_drew).mono fun e w' ⟨⟨R,p,r',h1,h2⟩,h3⟩=>⟨_,h1,R,p,r',rfl,h2,h3⟩) ?_
   rintro v w1 ⟨R,p,r',rfl,hI,he1⟩;have hp:p≤121:=by have h1:=HWS.out;rw[hI.len]at h1;exact h1
   have hbk1:=(HBK.out.ext (Al.drew w)).ext he1;obtain⟨d0,d1,d2⟩:=Ku hbk1;have hown1:=Av.ext (Av.ext HOW.out (Al.drew w)) he1;have hx1:=HX.out.to_drew.trans he1;have hg1:g+1≤w1.heap.size:=hbk1.lt)
  |(
   refine Q6 rfl (.tmp 9) (.tmp 19) 27 rfl w0 (g+1) 3 i0 _ 1 8 Tryz.underlying27 hi hz0 hz1 hz2 rfl (by decide) S q r _ rfl hown1 R p r' _ rfl hI hI.one (by unfold maxLen;omega) (by omega) hx1 (by omega) hg1 ?_
   intro S2 r2 w2 hO2 hgr hor hx2;have hbk2:=hbk1.grown hgr (fun e=>by have:=HOB.out g e.symm;omega)
   obtain⟨e0,e1,e2⟩:=Ku hbk2;have f2:=hbk2.frozen 2;have hK2:Hid (Cv w w2 g):=A4 (fun w9 h9 h8=>Al.grown ((h9.to_drew).trans he1) hgr hown1 (by omega))))
 all_goals
  have hbk3:An (w2.setCell ⟨g,2,none⟩ (.slice S2 (q+p) r2)) g 129 #[.slice B m d,.int .i64 (x:Int),.slice S2 (q+p) r2]:=hbk2.set_ 2 (.slice S2 (q+p) r2);have hown3:=Ay.setCell hO2 (p:=⟨g,2,none⟩) (show g<g+1 by omega) (.slice S2 (q+p) r2)
  have hK3:Hid (Cv w (w2.setCell ⟨g,2,none⟩ (.slice S2 (q+p) r2)) g):=A4 (hK2.out.trans Cv.set);have hO3:Hid (Av (w2.setCell ⟨g,2,none⟩ (.slice S2 (q+p) r2)) (g+1) S2 (q+p) r2 (sg++Ff b x k)):=A4 (by simpa[Av]using hown3)
  have hB3:=A4 hbk3;clear hbk1 d0 d1 d2 hown1 hx1 hg1 hO2 hgr hor hx2 hbk2 e0 e1 e2 f2 hK2 hown3 hI he1 c0 c1 c2 HBK HOW HX HW hbk3
  revert hK3 hO3 hB3
  generalize w2.setCell ⟨g,2,none⟩ (.slice S2 (q+p) r2)=w3;intro hK3 hO3 hB3;have f1:=hB3.out.frozen 1;obtain⟨e0,e1,e2⟩:=Ku hB3.out;have hB4:Hid (An (w3.setCell ⟨g,1,none⟩ (.int .i64 (k:Int))) g 129 #[.slice B m d,.int .i64 (k:Int),.slice S2 (q+p) r2]):=A4 (hB3.out.set_ 1 _);have hO4:=A4 (Ay.setCell hO3.out (p:=⟨g,1,none⟩) (show g<g+1 by omega) (.int .i64 (k:Int)))
  go_wp2_with fail
  go_ret
  exact⟨rfl,by rw[hlen.out];exact⟨S2,_,r2,hB4.out,hO4.out⟩,hK3.out.trans Cv.set⟩
theorem mT {g m d u v:Nat}(h:Mb w g B m d j)(hb:Bi w0 B m d b)(hB:B=none→d=0)(hx:Al w0 w)(hg:w0.heap.size≤g)(hm:m≤120)(hj:j.1≤m)(huv:u≤v)(hv:v≤m)(hz:j.2.length≤900000):
 Calls Tryz.prog 69 #[.pointer (some ⟨g,0,none⟩),.int .i64 u,.int .i64 v] w fun e w'=>e=.returned (.pointer (some ⟨g,0,none⟩))∧Mb w' g B m d (Dd b j u v)∧Cv w w' g:=by
 have N0:=trivial;exact pS
theorem jD {g m d u:Nat}(h:Mb w g B m d j)(hb:Bi w0 B m d b)(hB:B=none→d=0)(hx:Al w0 w)(hg:w0.heap.size≤g)(hm:m≤120)(hj:j.1≤m)(hu:u≤m)(hz:j.2.length≤900000):
 Calls Tryz.prog 70 #[.pointer (some ⟨g,0,none⟩),.int .i64 u] w fun e w'=>e=.returned (.pointer (some ⟨g,0,none⟩))∧Mb w' g B m d (Dc b j u)∧Cv w w' g:=by
 have N1:=trivial;exact pS
end
