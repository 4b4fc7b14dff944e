/-
  Part ZPaiW.
-/
import Derived.Test.YtkaefdmhlmlhbaaGreatZConc
import Derived.Test.YtkaefdmhlmlhbaaGreatZRepl
import Derived.Deep.DeepCutAuto
import Derived.Deep.CutRange
import Derived.Deep.CutBlock
import Derived.Deep.RegionLaw
set_option maxRecDepth 100000
set_option maxHeartbeats 16000000
set_option linter.unusedVariables false
set_option linter.unusedSimpArgs false
namespace Go.Proofs.YtkaefdmhlmlhbaaGreat
open Go.RowKit
open _root_.Go.Proofs.Tryz
open _root_.Nat renaming le_refl→Aj,lt_or_ge→Ay
section
variable {a b:List Int}{j:Nat×List Int}{B:Option Addr}{w w0:World}{g:Nat}
theorem J5c {y k:Nat}(h:k<y)(e:gI a k=gI b k):Y8 a b y (y-k) k=Y8 a b y (y-(k+1)) (k+1):=by
 obtain⟨f,hf⟩:∃f,y-k=f+1:=⟨y-k-1,by omega⟩
 rw[hf,show y-(k+1)=f by omega]
 simp[Y8,e]
theorem sC {y k:Nat}(e:k<y→gI a k≠gI b k):Y8 a b y (y-k) k=k:=by
 rcases Ay k y with h|h
 ·obtain⟨f,hf⟩:∃f,y-k=f+1:=⟨y-k-1,by omega⟩
  rw[hf];simp[Y8,e h]
 ·rw[show y-k=0 by omega];rfl
theorem J5d {x j:Nat}(h:x<j)(e:gI a (j-1)=gI b (j-1)):Y9 a b x (j-x) j=Y9 a b x (j-1-x) (j-1):=by
 obtain⟨f,hf⟩:∃f,j-x=f+1:=⟨j-x-1,by omega⟩
 rw[hf,show j-1-x=f by omega]
 simp[Y9,e]
theorem sD {x j:Nat}(e:x<j→gI a (j-1)≠gI b (j-1)):Y9 a b x (j-x) j=j:=by
 rcases Ay x j with h|h
 ·obtain⟨f,hf⟩:∃f,j-x=f+1:=⟨j-x-1,by omega⟩
  rw[hf];simp[Y9,e h]
 ·rw[show j-x=0 by omega];rfl
def J2i (w:World)(k j:Nat)(e:Ending)(w':World):Prop:=e=.returned (.tuple #[k,j,.bool (decide (k<j))])∧∃z,w'=w.drewN z
theorem bC {A B:Option Addr}{n m c d x y:Nat}(ha:Bj w A n c a)(hb:Bj w B m d b)(fl:x≤y)(hyn:y≤n)(hym:y≤m):
 Calls prog 103 #[.slice A n c,.slice B m d,.int .i64 x,.int .i64 y] w (J2i w (Fk a b x y) (Hm a b x y)):=by
 have aw:=ha.ncap;have aq:=ha.nmax;have dw:=hb.ncap;have wn:=hb.nmax;unfold maxLen at aq wn;go_enter func103,ntmps103
 go_upto_block 0 with fail
 go_cut [2] (fun s2 wx=>∃k:Nat,x≤k∧k≤y∧s2=.int .i64 k∧Hid (Fk a b x y=k)∧∃z,wx=w.drewN z)
 case first=>
  go_wp2_with fail
  go_loopw [2] (fun v wr=>∃k:Nat,x≤k∧k≤y∧v=.int .i64 k∧Hid (Fk a b x y=Y8 a b y (y-k) k)∧∃z,wr=w.drewN z) (fun v _=>y-(intOf v).toNat)
  case atStart=>exact⟨x,by omega,by omega,rfl,A6 rfl,0,rfl⟩
  case round=>
   obtain⟨k,CW,hky,rfl,HD,z,rfl⟩:=hrel;by_cases ae:k<y
   ·obtain⟨a1,rfl,bh⟩:=ha.at_ (k:=k) (by omega)
    obtain⟨a2,rfl,fo⟩:=hb.at_ (k:=k) (by omega)
    have c1:=bh k (by omega)
    have c2:=fo k (by omega)
    have d1:decide (k<y)=true:=by simpa using ae
    have d2:decide ((k:Int)<(y:Int))=true:=by simp;omega
    have kn:k<n:=by omega
    have km:k<m:=by omega
    by_cases heq:gI a k=gI b k
    ·have kv:Hid (Fk a b x y=Y8 a b y (y-(k+1)) (k+1)):=A6 (by rw[HD.out,J5c ae heq])
     have b1:(gI a k==gI b k)=true:=by simpa using heq
     clear bh fo HD heq;go_wp2_with fail
     go_quiet (fail)
     go_wp2_with fail
     go_roundw
     case rel=>exact⟨k+1,by omega,by omega,by go_num,kv,z+nq,by first|exact Qv _ _ _|rfl⟩
     case measure=>simp[intOf];omega
    ·have kv:Hid (Fk a b x y=k):=A6 (by rw[HD.out,sC (fun _=>heq)])
     have b1:(gI a k==gI b k)=false:=by simpa using heq
     clear bh fo HD heq;exact I76
   ·have d1:decide (k<y)=false:=by simpa using ae
    have d2:decide ((k:Int)<(y:Int))=false:=by simp;omega
    have kv:Hid (Fk a b x y=k):=A6 (by rw[HD.out,sC (fun h=>absurd h ae)])
    clear HD;exact I76
 case rest=>
  obtain⟨k,CW,hky,rfl,HD,z,rfl⟩:=hcut;go_upto_block 2 with fail
  go_cut [3] (fun s3 wx=>∃j:Nat,k≤j∧j≤y∧s3=.int .i64 j∧Hid (Hm a b x y=j)∧∃z',wx=w.drewN z')
  case first=>
   go_wp2_with fail
   go_loopw [3] (fun v wr=>∃j:Nat,k≤j∧j≤y∧v=.int .i64 j∧Hid (Hm a b x y=Y9 a b k (j-k) j)∧∃z',wr=w.drewN z') (fun v _=>(intOf v).toNat)
   case atStart=>exact⟨y,by omega,by omega,rfl,A6 (by unfold Hm;rw[HD.out]),z,rfl⟩
   case round=>
    obtain⟨j,JE,hjy,rfl,HJ,z',rfl⟩:=hrel;by_cases ae:k<j
    ·obtain⟨a1,rfl,bh⟩:=ha.at_ (k:=j-1) (by omega)
     obtain⟨a2,rfl,fo⟩:=hb.at_ (k:=j-1) (by omega)
     have c1:=bh (j-1) (by omega)
     have c2:=fo (j-1) (by omega)
     have oh:Hid (gI a (j-1)=gI b (j-1)→Hm a b x y=Y9 a b k (j-1-k) (j-1)):=A6 (fun e=>by rw[HJ.out,J5d ae e])
     have SU:Hid (gI a (j-1)≠gI b (j-1)→Hm a b x y=j):=A6 (fun e=>by rw[HJ.out,sD (fun _=>e)])
     obtain⟨p,hp⟩:∃p,p=j-1:=⟨_,rfl⟩;rw[←hp]at c1 c2 oh SU;have mg:IntKind.i64.wrap ((j:Int)-1)=(p:Int):=by rw[IntWalk.i64_in _ (by omega)];omega
     have od:p<n:=by omega
     have AZ:p<m:=by omega
     have HP:=A6 hp;have d1:decide (k<j)=true:=by simpa using ae
     have d2:decide ((k:Int)<(j:Int))=true:=by simp;omega
     have UJ:k≤p:=by omega
     have hpy:p≤y:=by omega
     have hpj:p<j:=by omega
     clear hp;by_cases heq:gI a p=gI b p
     ·have kv:=A6 (oh.out heq)
      have b1:(gI a p==gI b p)=true:=by simpa using heq
      clear bh fo oh SU HJ heq;go_wp2_with fail
      go_quiet (fail)
      go_wp2_with fail
      go_roundw
      case rel=>exact⟨p,UJ,hpy,by have:=HP.out;first|rfl|(congr 1;omega),kv,z'+nq,by first|exact Qv _ _ _|rfl⟩
      case measure=>have:=HP.out;simp[intOf];omega
     ·have kv:=A6 (SU.out heq)
      have b1:(gI a p==gI b p)=false:=by simpa using heq
      clear bh fo oh SU HJ heq;exact I74
    ·have d1:decide (k<j)=false:=by simpa using ae
     have d2:decide ((k:Int)<(j:Int))=false:=by simp;omega
     have kv:Hid (Hm a b x y=j):=A6 (by rw[HJ.out,sD (fun h=>absurd h ae)])
     clear HJ;exact I74
  case rest=>
   obtain⟨j,JE,hjy,rfl,HJ,z',rfl⟩:=hcut;go_wp2_with fail
   go_ret3
   rw[HD.out,HJ.out];exact⟨by simp,z',rfl⟩
def J2f (w:World)(l:List Int)(e:Ending)(w':World):Prop:=(∃R q r,e=.returned (.slice R q r)∧Bj w' R q r l)∧An w w'
theorem J2s {A:Option Addr}{n c x y:Nat}(hb:Bj w A n c b)(hA:A=none→c=0)(hn:n≤120)(hx:x≤n)(hy:y≤n):
 Calls prog 142 #[.slice A n c,.int .i64 x,.int .i64 y] w (J2f w (Gn b x y)):=by
 obtain⟨i0,hi,bm,bz,az⟩:=info_parts Cd;have aw:=hb.ncap;have aq:=hb.nmax;unfold maxLen at aq;by_cases fl:x≤y
 ·have HW:Hid (Gn b x y=(b.drop x).take (y-x)):=A6 (by unfold Gn;rw[if_pos fl])
  have hcut:=Wj A n c x y fl (by omega)
  have HC:=A6 (Dj (hb.cutA fl hy) (Zw hA) (by omega))
  clear hb hA;go_enter func142,ntmps142
  go_wp2_with fail
  refine HC.out.mono ?_
  rintro e w1 ⟨R,r,rfl,ho,_,he⟩;clear HC hcut;go_wp2_with fail
  go_ret
  exact⟨⟨R,_,r,rfl,by rw[HW.out];exact ho.ints⟩,he⟩
 ·by_cases ak:x-y≤1+y
  ·have HW:Hid (Gn b x y=List.replicate (x-y) 8):=A6 (by unfold Gn;rw[if_neg fl,if_pos ak])
   obtain⟨q,hq⟩:∃q,q=x-y:=⟨_,rfl⟩;have bu:(x:Int)-(y:Int)=(q:Int):=by omega
   have bf:(q:Int)≤1+(y:Int):=by omega
   have jq:q≤1000000:=by omega
   have am:=A6 (An.alloc w (.cells #[(8:Int)] 3));have HC:=A6 (Z9 (n:=q) (Bj.litAt w 3 [8] rfl rfl (by omega)) jq)
   rw[←hq]at HW;have XK:y<x:=by omega
   clear hb hA hq ak;go_enter func142,ntmps142
   go_wp2_with fail
   refine HC.out.mono ?_
   rintro e w1 ⟨⟨g,rfl,ho⟩,he⟩;clear HC;go_wp2_with fail
   go_ret
   exact⟨⟨_,_,_,rfl,by rw[HW.out];exact ho.ints⟩,am.out.trans he⟩
  ·have HW:Hid (Gn b x y=13::b.take y):=A6 (by unfold Gn;rw[if_neg fl,if_neg ak])
   obtain⟨q,hq⟩:∃q,q=x-y:=⟨_,rfl⟩;have bu:(x:Int)-(y:Int)=(q:Int):=by omega
   have bf:1+(y:Int)<(q:Int):=by omega
   have XK:y<x:=by omega
   have dg:Bd (w.alloc (.cells #[(13:Int)] 3)) w.heap.size 3 1 (some ⟨w,0,none⟩) 1 1 [.int .i64 13]:=
    ⟨rfl,.inr ⟨w,1,#[.int .i64 13],rfl,Aj _,heap_alloc_new w _,Aj _,by unfold maxLen;omega,rfl,rfl⟩⟩
   have am:=An.alloc w (.cells #[(13:Int)] 3);have zf:=(hb.front (k:=y) hy).ext am;have HFR:=A6 zf;clear hq ak hb hA zf;go_enter func142,ntmps142
   go_wp2_with (at_builtin;refine Eh rfl _ _ 25 rfl w w.heap.size 3 i0 (.int .i64 0) 1 8 underlying25 hi bm bz az rfl (by decide) (some ⟨w,0,none⟩) 1 1 _ rfl dg A y c _ rfl HFR.out HFR.out.one ?_ ?_ am (Aj _) am.hsize ?_)
   ·unfold maxLen;omega
   ·omega
   ·intro A2 c2 w2 k1 k2 k3 k4
    have h1:Ba w2 w.heap.size A2 (1+y) c2 (13::b.take y):=by simpa[Ba]using k1
    have HO:=A6 h1;clear k1 k2 k3 h1 dg am;go_wp2_with fail
    go_ret
    exact⟨⟨_,_,_,rfl,by rw[HW.out];exact HO.out.ints⟩,k4⟩
def Pf (w:World)(g:Nat)(B:Option Addr)(m d:Nat)(j:Nat×List Int):Prop:=∃S q r,Aq w g 178 #[.slice B m d,.int .i64 (j.1:Int),.slice S q r]∧Ba w (g+1) S q r j.2
def Dg (w w':World)(g:Nat):Prop:=∀w0:World,An w0 w→w0.heap.size≤g→An w0 w'
theorem Dg.trans {a b c:World}(h:Dg a b g)(k:Dg b c g):Dg a c g:=fun w0 h0 h1=>k w0 (h w0 h0 h1) h1
theorem Dg.ext {a b:World}(h:An a b):Dg a b g:=fun w0 h0 _=>h0.trans h
theorem Dg.set {g i:Nat}{u:Value}:Dg w (w.setCell ⟨g,i,none⟩ u) g:=fun w0 h0 h1=>h0.setCell h1 _
theorem Pf.ext {w w':World}{m d:Nat}(h:Pf w g B m d j)(he:An w w'):Pf w' g B m d j:=
 let ⟨S,q,r,h1,h2⟩:=h;⟨S,q,r,h1.ext he,Ba.ext h2 he⟩
theorem Mi {g t:Nat}{u v s:Value}(h:Aq w g t #[u,v,s]):w.cell? ⟨g,0,none⟩=some u∧w.cell? ⟨g,1,none⟩=some v∧w.cell? ⟨g,2,none⟩=some s:=⟨h.cell 0,h.cell 1,h.cell 2⟩
theorem Tq {x y:Nat}(hx:x≤120)(hy:y≤120):(Gn b x y).length≤121:=by
 unfold Gn;split
 ·rw[List.length_take];omega
 ·exact I106
theorem J1x {g m d k:Nat}(h:Pf w g B m d j)(hb:Bj w0 B m d b)(hB:B=none→d=0)(hx:An w0 w)(hg:w0.heap.size≤g)(hm:m≤120)(hj:j.1≤m)(hk:k≤m)(hz:j.2.length≤1000000):
 Calls prog 104 #[.pointer (some ⟨g,0,none⟩),.int .i64 k] w fun e w'=>e=.returned (.pointer (some ⟨g,0,none⟩))∧Pf w' g B m d (Jl b j k)∧Dg w w' g:=by
 obtain⟨i0,hi,bm,bz,az⟩:=info_parts Cd;obtain⟨x,sg⟩:=j;have hj:x≤m:=hj;have hz:sg.length≤1000000:=hz;obtain⟨S,q,r,oy,ac⟩:=h;have oy:Aq w g 178 #[.slice B m d,.int .i64 (x:Int),.slice S q r]:=oy;have hq:q≤1000000:=by have:sg.length=q:=(Ba.ints ac).len;omega
 have rz:=oy.lt;have HW:Hid (∀wq,An w0 wq→Calls prog 142 #[.slice B m d,.int .i64 x,.int .i64 k] wq (J2f wq (Gn b x k))):=A6 fun wq he=>J2s (hb.ext he) hB hm hj hk
 have HWS:=A6 (Tq (b:=b) (x:=x) (y:=k) (by omega) (by omega))
 have JQ:=A6 oy;have RD:=A6 ac;have HX:=A6 hx;obtain⟨c0,c1,c2⟩:=Mi oy;have SB:Hid (∀k,(Value.slice S q r).ownBlock=some k→g+1≤k):=A6 fun k hk=>(Bd.blk ac k hk).1
 clear oy ac hb hB hz hx;have ab:Hid (Jl b (x,sg) k=(k,sg++Gn b x k)):=A6 rfl;go_enter func104,ntmps104
 go_wp2_with fail
 go_region_law (first
  |(
   refine C8 rfl 142 #[.slice B m d,.int .i64 (x:Int),.int .i64 (k:Int)] rfl (by kernel_rfl) (fun v w'=>∃R p r',v=.slice R p r'∧Bj w' R p r' (Gn b x k)∧An w.drew w') ((HW.out _ HX.out.to_drew).mono fun e w' ⟨⟨R,p,r',h1,h2⟩,h3⟩=>⟨_,h1,R,p,r',rfl,h2,h3⟩) ?_
   rintro v w1 ⟨R,p,r',rfl,hI,aj⟩;have hp:p≤121:=by have h1:=HWS.out;rw[hI.len]at h1;exact h1
   have BP:=(JQ.out.ext (An.drew w)).ext aj;obtain⟨d0,d1,d2⟩:=Mi BP;have jv:=Ba.ext (Ba.ext RD.out (An.drew w)) aj;have ay:=HX.out.to_drew.trans aj;have cb:g+1≤w1.heap.size:=BP.lt)
  |(
   refine So rfl (.tmp 9) (.tmp 19) 25 rfl w0 (g+1) 3 i0 _ 1 8 underlying25 hi bm bz az rfl (by decide) S q r _ rfl jv R p r' _ rfl hI hI.one (by unfold maxLen;omega) (by omega) ay (by omega) cb ?_
   intro S2 r2 w2 db av cf bt;have iy:=BP.grown av (fun e=>by have:=SB.out g e.symm;omega)
   obtain⟨e0,e1,e2⟩:=Mi iy;have f2:=iy.frozen 2;have MT:Hid (Dg w w2 g):=A6 (fun w9 h9 h8=>An.grown ((h9.to_drew).trans aj) av jv (by omega))))
 all_goals
  have xn:Aq (w2.setCell ⟨g,2,none⟩ (.slice S2 (q+p) r2)) g 178 #[.slice B m d,.int .i64 (x:Int),.slice S2 (q+p) r2]:=iy.set_ 2 (.slice S2 (q+p) r2);have et:=Bd.setCell db (p:=⟨g,2,none⟩) (show g<g+1 by omega) (.slice S2 (q+p) r2)
  have BG:Hid (Dg w (w2.setCell ⟨g,2,none⟩ (.slice S2 (q+p) r2)) g):=A6 (MT.out.trans Dg.set);have cv:Hid (Ba (w2.setCell ⟨g,2,none⟩ (.slice S2 (q+p) r2)) (g+1) S2 (q+p) r2 (sg++Gn b x k)):=A6 (by simpa[Ba]using et)
  have ir:=A6 xn;clear BP d0 d1 d2 jv ay cb db av cf bt iy e0 e1 e2 f2 MT et hI aj c0 c1 c2 JQ RD HX HW xn
  revert BG cv ir
  generalize w2.setCell ⟨g,2,none⟩ (.slice S2 (q+p) r2)=w3;intro BG cv ir;have f1:=ir.out.frozen 1;obtain⟨e0,e1,e2⟩:=Mi ir.out;have xo:Hid (Aq (w3.setCell ⟨g,1,none⟩ (.int .i64 (k:Int))) g 178 #[.slice B m d,.int .i64 (k:Int),.slice S2 (q+p) r2]):=A6 (ir.out.set_ 1 _);have fd:=A6 (Bd.setCell cv.out (p:=⟨g,1,none⟩) (show g<g+1 by omega) (.int .i64 (k:Int)))
  go_wp2_with fail
  go_ret
  exact⟨rfl,by rw[ab.out];exact⟨S2,_,r2,xo.out,fd.out⟩,BG.out.trans Dg.set⟩
theorem uG {g m d u v:Nat}(h:Pf w g B m d j)(hb:Bj w0 B m d b)(hB:B=none→d=0)(hx:An w0 w)(hg:w0.heap.size≤g)(hm:m≤120)(hj:j.1≤m)(AH:u≤v)(hv:v≤m)(hz:j.2.length≤900000):
 Calls prog 105 #[.pointer (some ⟨g,0,none⟩),.int .i64 u,.int .i64 v] w fun e w'=>e=.returned (.pointer (some ⟨g,0,none⟩))∧Pf w' g B m d (Dw b j u v)∧Dg w w' g:=by
 have N0:=trivial;exact xV
theorem pH {g m d u:Nat}(h:Pf w g B m d j)(hb:Bj w0 B m d b)(hB:B=none→d=0)(hx:An w0 w)(hg:w0.heap.size≤g)(hm:m≤120)(hj:j.1≤m)(hu:u≤m)(hz:j.2.length≤900000):
 Calls prog 106 #[.pointer (some ⟨g,0,none⟩),.int .i64 u] w fun e w'=>e=.returned (.pointer (some ⟨g,0,none⟩))∧Pf w' g B m d (Dt b j u)∧Dg w w' g:=by
 have N1:=trivial;exact xV
end
