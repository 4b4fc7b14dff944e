/-
  Part ZBtwM.
-/
import Derived.Test.YtiahhfglhlgfiaaGreatZClone
import Derived.Deep.DeepCutAuto
import Derived.Deep.CutRange
import Derived.Deep.CutBlock
import Derived.Deep.Light
set_option maxRecDepth 100000
set_option maxHeartbeats 16000000
set_option linter.unusedVariables false
set_option linter.unusedSimpArgs false
namespace Go.Proofs.YtiahhfglhlgfiaaGreat
open Go.RowKit
open _root_.And renaming intro→Be
open _root_.List renaming getElem?_take→Mg,take_of_length_le→Bj,take_succ_eq_append_getElem→wV
open Value renaming slice→Aj
section
variable {l m:List Int}{k j:Nat}
def pJ (l m:List Int)(k j:Nat):Prop:=
 k+j≤min l.length m.length∧l.take k=m.take k∧l.drop (l.length-j)=m.drop (m.length-j)∧(k<min l.length m.length→gI l k≠gI m k)∧(k+j<min l.length m.length→gI l (l.length-1-j)≠gI m (m.length-1-j))
theorem jP (h:pJ l m k j)(h1:k=l.length)(h2:k=m.length):l=m:=by
 have:=h.2.1
 rwa[Bj (by omega),Bj (by omega)]at this
theorem eG {k k':Nat}(h:l.take k=m.take k)(hk:k'<k):gI l k'=gI m k':=by
 have h1:(l.take k)[k']? = (m.take k)[k']?:=by rw[h]
 rw[Mg,Mg,if_pos hk,if_pos hk]at h1;unfold gI;rw[h1]
def Pk (l m:List Int)(k j:Nat):Fh:=⟨k,((l.length-j:Nat):Int),(m.drop k).take (m.length-j-k)⟩
theorem jQ (m:List Int)(h:k+j≤m.length):m.take k++(m.drop k).take (m.length-j-k)++m.drop (m.length-j)=m:=by
 rw[List.append_assoc];have:=sP m (a:=k) (b:=m.length-j) (by omega)
 rw[this,List.take_append_drop]
theorem fF (h:pJ l m k j):Yh l 0 [Pk l m k j]=m:=by
 obtain⟨h1,h2,h3,_⟩:=h;simp only[Yh,Pk,Int.toNat_natCast,List.drop_zero,Nat.sub_zero];rw[h2,h3];exact jQ m (by omega)
theorem sV (h:pJ l m k j)(hl:l.length≤4096)(hm:m.length≤4096)(hne:¬(k=l.length∧k=m.length)):fJ l.length [Pk l m k j]=0:=by
 have ha:=fF h;obtain⟨h1,h2,h3,h4,h5⟩:=h;have hlen:=fS m (a:=k) (b:=m.length-j) (by omega) (by omega)
 refine Rl.2 ⟨by omega,by omega,?_,?_⟩
 ·refine⟨by simp only[Pk];omega,by simp only[Pk];omega,by simp only[Pk];omega,?_,by simp only[Pk];rw[hlen];omega,trivial⟩
  simp only[Pk];rw[hlen];rintro⟨q1,q2⟩;have e1:l.length=m.length:=by omega
  have e2:l.length-j=k:=by omega
  have e3:m.length-j=k:=by omega
  rw[e2,e3]at h3;have:l=m:=by rw[←List.take_append_drop k l,←List.take_append_drop k m,h2,h3]
  rcases Nat.lt_or_ge k (min l.length m.length)with hk|hk
  ·exact h4 hk (by rw[this])
  ·exact hne ⟨by omega,by omega⟩
 ·simp only[Ye,Pk]
  rw[hlen];omega
theorem sK {W:World}{g base:Nat}{f t:Int}{B:Option Addr}{m d:Nat}{x:List Int}(h:An W g 241 #[.int .i64 f,.int .i64 t,.slice B m d])(hg:base≤g)(hx:Av W base B m d x)(hn:B=none→d=0)(hne:∀k,(Aj B m d).ownBlock=some k→k≠g):Dq W base (.slice (some ⟨g,0,none⟩) 1 1) [⟨f,t,x⟩]:=by
 refine⟨_,1,1,[.int .i64 f,.int .i64 t,.slice B m d],some g,rfl,⟨rfl,.inr ⟨g,1,#[.int .i64 f,.int .i64 t,.slice B m d],rfl,hg,h,by omega,by unfold maxLen;omega,rfl,rfl⟩⟩,rfl,fun i hi=>?_⟩
 obtain rfl:i=0:=by simp at hi;omega
 exact⟨B,m,d,rfl,rfl,rfl,hx,hn,by
  cases hq:(Aj B m d).ownBlock with
  |none=>exact .inl rfl
  |some k=>exact .inr (fun e=>hne k hq (by injection e))⟩
theorem aF {A B:Option Addr}{n c q d:Nat}{w:World}(hl:Bi w A n c l)(hm:Bi w B q d m)(hB:B=none→d=0)(hn:n≤4096)(hq:q≤4096):
 Calls Tryz.prog 146 #[.slice A n c,.slice B q d] w fun e' w'=>(∃k j,pJ l m k j∧((k=n∧k=q∧e'=.returned (.tuple #[.slice none 0 0,.int .i64 0]))∨
  (¬(k=n∧k=q)∧∃g,e'=.returned (.tuple #[.slice (some ⟨g,0,none⟩) 1 1,.int .i64 0])∧Dq w' w.heap.size (.slice (some ⟨g,0,none⟩) 1 1) [Pk l m k j])))∧Al w w':=by
 have hln:=A4 hl.len;have hmn:=A4 hm.len;have hnc:=hl.ncap;have hcm:=hl.nmax;have hqd:=hm.ncap;have hdm:=hm.nmax;unfold maxLen at hcm hdm;have HBN:=A4 hB;clear hB;obtain⟨mn,hmn'⟩:∃mn,mn=min n q:=⟨_,rfl⟩;have hmn1:mn≤n:=by omega
 have hmn2:mn≤q:=by omega
 have HMN:=A4 hmn';clear hmn';go_enter Tryz.func146,Tryz.ntmps146
 go_upto_region 3 with fail
 go_cut [6] (fun s6 wx=>s6=.int .i64 mn∧w=wx)
 case first=>
  by_cases h1:n≤q
  ·have HH:Hid (mn=n):=A4 (by have:=HMN.out;omega)
   exact I100
  ·have HH:Hid (mn=q):=A4 (by have:=HMN.out;omega)
   exact I100
 case rest=>
  obtain⟨rfl,rfl⟩:=hcut;go_upto_block 0 with fail
  go_cut [7] (fun s7 wx=>∃k:Nat,k≤mn∧s7=.int .i64 k∧Hid (l.take k=m.take k)∧Hid (k<mn→gI l k≠gI m k)∧∃z,wx=w.drewN z)
  case first=>
   go_wp2_with fail
   go_loopw [7] (fun v wr=>∃k:Nat,k≤mn∧v=.int .i64 k∧Hid (l.take k=m.take k)∧∃z,wr=w.drewN z) (fun v _=>mn-(intOf v).toNat)
   case atStart=>exact⟨0,by omega,rfl,rfl,0,rfl⟩
   case round=>
    obtain⟨k,hk,rfl,HT,z,rfl⟩:=hrel;have HST:Hid (k<mn→gI l k=gI m k→l.take (k+1)=m.take (k+1)):=A4 (fun h1 h2=>by
     have e1:k<l.length:=by have:=hln.out;omega
     have e2:k<m.length:=by have:=hmn.out;omega
     rw[wV e1,wV e2,HT.out];have h3:l[k]=m[k]:=by simpa[gI,e1,e2]using h2
     rw[h3])
    by_cases hlt:k<mn
    ·obtain⟨a1,rfl,hc1⟩:=hl.at_ (k:=k) (by omega)
     obtain⟨a2,rfl,hc2⟩:=hm.at_ (k:=k) (by omega)
     have c1:=hc1 k (by omega)
     have c2:=hc2 k (by omega)
     have d1:decide (k<mn)=true:=by simpa using hlt
     have d2:decide ((k:Int)<(mn:Int))=true:=by simp;omega
     have kn:k<n:=by omega
     have kq:k<q:=by omega
     by_cases heq:gI l k=gI m k
     ·have HN2:Hid (l.take (k+1)=m.take (k+1)):=A4 (HST.out hlt heq)
      have b1:(gI l k==gI m k)=true:=by simpa using heq
      clear hc1 hc2 HST heq;go_wp2_with fail
      go_quiet (fail)
      go_wp2_with fail
      go_roundw
      case rel=>exact⟨k+1,by omega,by go_num,HN2,z+nq,by first|exact No _ _ _|rfl⟩
      case measure=>simp[intOf];omega
     ·have HN2:Hid (k<mn→gI l k≠gI m k):=A4 (fun _=>heq)
      have b1:(gI l k==gI m k)=false:=by simpa using heq
      clear hc1 hc2 HST heq;exact I73
    ·have d1:decide (k<mn)=false:=by simpa using hlt
     have d2:decide ((k:Int)<(mn:Int))=false:=by simp;omega
     have HN2:Hid (k<mn→gI l k≠gI m k):=A4 (fun h=>absurd h hlt)
     clear HST;exact I73
  case rest=>
   obtain⟨k,hk,rfl,HT,HK,z,rfl⟩:=hcut;obtain⟨r,hr⟩:∃r,r=mn-k:=⟨_,rfl⟩;have hr1:(mn:Int)-(k:Int)=(r:Int):=by omega
   have hw0:IntKind.i64.wrap ((mn:Int)-(k:Int))=(r:Int):=by rw[IntWalk.i64_in _ (by omega)];omega
   have HR:=A4 hr;have hrn:k+r≤n:=by omega
   have hrq:k+r≤q:=by omega
   clear hr;go_upto_block 2 with fail
   go_cut [8] (fun s8 wx=>∃j:Nat,j≤r∧s8=.int .i64 j∧Hid (l.drop (n-j)=m.drop (q-j))∧Hid (j<r→gI l (n-1-j)≠gI m (q-1-j))∧∃z',wx=w.drewN z')
   case first=>
    go_wp2_with fail
    go_loopw [8] (fun v wr=>∃j:Nat,j≤r∧v=.int .i64 j∧Hid (l.drop (n-j)=m.drop (q-j))∧∃z',wr=w.drewN z') (fun v _=>r-(intOf v).toNat)
    case atStart=>exact⟨0,by omega,rfl,A4 (by
     rw[List.drop_of_length_le (by rw[hln.out];omega),List.drop_of_length_le (by rw[hmn.out];omega)]),z,rfl⟩
    case round=>
     obtain⟨j,hj,rfl,HD,z',rfl⟩:=hrel;by_cases hlt:j<r
     ·obtain⟨a1,rfl,hc1⟩:=hl.at_ (k:=n-1-j) (by omega)
      obtain⟨a2,rfl,hc2⟩:=hm.at_ (k:=q-1-j) (by omega)
      have c1:=hc1 (n-1-j) (by omega)
      have c2:=hc2 (q-1-j) (by omega)
      have HST:Hid (gI l (n-1-j)=gI m (q-1-j)→l.drop (n-(j+1))=m.drop (q-(j+1))):=A4 (fun h2=>by
       have e1:n-1-j<l.length:=by have:=hln.out;omega
       have e2:q-1-j<m.length:=by have:=hmn.out;omega
       rw[show n-(j+1)=n-1-j by omega,show q-(j+1)=q-1-j by omega]
       rw[List.drop_eq_getElem_cons e1,List.drop_eq_getElem_cons e2,show n-1-j+1=n-j by omega,show q-1-j+1=q-j by omega,HD.out]
       have h3:l[n-1-j]=m[q-1-j]:=by simpa[gI,e1,e2]using h2
       rw[h3])
      obtain⟨n1,hn1⟩:∃n1,n1=n-1:=⟨_,rfl⟩;obtain⟨q1,hq1⟩:∃q1,q1=q-1:=⟨_,rfl⟩;obtain⟨p1,hp1⟩:∃p1,p1=n-1-j:=⟨_,rfl⟩;obtain⟨p2,hp2⟩:∃p2,p2=q-1-j:=⟨_,rfl⟩;have hw1:IntKind.i64.wrap ((n:Int)-1)=(n1:Int):=by rw[IntWalk.i64_in _ (by omega)];omega
      have hw2:IntKind.i64.wrap ((q:Int)-1)=(q1:Int):=by rw[IntWalk.i64_in _ (by omega)];omega
      have hw3:IntKind.i64.wrap ((n1:Int)-(j:Int))=(p1:Int):=by rw[IntWalk.i64_in _ (by omega)];omega
      have hw4:IntKind.i64.wrap ((q1:Int)-(j:Int))=(p2:Int):=by rw[IntWalk.i64_in _ (by omega)];omega
      have hp1n:p1<n:=by omega
      have hp2q:p2<q:=by omega
      rw[←hp1]at c1 HST;rw[←hp2]at c2 HST;have HP:=A4 (Be hp1 hp2);have d1:decide (j<r)=true:=by simpa using hlt
      have d2:decide ((j:Int)<(r:Int))=true:=by simp;omega
      by_cases heq:gI l p1=gI m p2
      ·have HN2:=A4 (HST.out heq)
       have b1:(gI l p1==gI m p2)=true:=by simpa using heq
       clear hc1 hc2 HST heq hn1 hq1 hp1 hp2 HD hr1;go_wp2_with fail
       go_quiet (fail)
       clear hw1 hw2 hw3 hw4;go_wp2_with fail
       go_roundw
       case rel=>exact⟨j+1,by omega,by go_num,HN2,z'+nq,by first|exact No _ _ _|rfl⟩
       case measure=>simp[intOf];omega
      ·have HN2:Hid (j<r→gI l (n-1-j)≠gI m (q-1-j)):=A4 (fun _=>by rw[←HP.out.1,←HP.out.2];exact heq)
       have b1:(gI l p1==gI m p2)=false:=by simpa using heq
       clear hc1 hc2 HST heq hn1 hq1 hp1 hp2 hr1;go_wp2_with fail
       go_quiet (fail)
       clear hw1 hw2 hw3 hw4;exact I92
     ·have d1:decide (j<r)=false:=by simpa using hlt
      have d2:decide ((j:Int)<(r:Int))=false:=by simp;omega
      have HN2:Hid (j<r→gI l (n-1-j)≠gI m (q-1-j)):=A4 (fun h=>absurd h hlt)
      clear hr1;go_wp2_with fail
      go_quiet (fail)
      exact I92
   case rest=>
    obtain⟨j,hj,rfl,HD,HJ,z',rfl⟩:=hcut;have HB:Hid (pJ l m k j):=A4 (by
     have h1:=hln.out;have h2:=hmn.out;have h3:=HMN.out;have h4:=HR.out;unfold pJ;rw[h1,h2];exact⟨by omega,HT.out,HD.out,fun h=>HK.out (by omega),fun h=>HJ.out (by omega)⟩)
    clear hw0 hr1 HD HJ HK HT;have hxd:Al w (w.drewN z'):=Al.drewN _ _;by_cases hkn:k=n
    ·by_cases hkq:k=q
     ·have b1:((k:Int)==(n:Int))=true:=by simp;omega
      have b2:((k:Int)==(q:Int))=true:=by simp;omega
      have HE:=A4 (Be hkn hkq);clear hkn hkq;go_wp2_with fail
      go_ret2
      exact⟨⟨k,j,HB.out,.inl ⟨HE.out.1,HE.out.2,rfl⟩⟩,hxd⟩
     ·have N0:=trivial;exact zQ
    ·have N1:=trivial;exact zQ
theorem fB {j i:Nat}(h:l.drop (l.length-j)=m.drop (m.length-j))(hl:j≤l.length)(hm:j≤m.length)(hi:i<j):gI l (l.length-1-i)=gI m (m.length-1-i):=by
 have h1:(l.drop (l.length-j))[j-1-i]? = (m.drop (m.length-j))[j-1-i]?:=by rw[h]
 rw[List.getElem?_drop,List.getElem?_drop,show l.length-j+(j-1-i)=l.length-1-i by omega,show m.length-j+(j-1-i)=m.length-1-i by omega]at h1
 unfold gI;rw[h1]
theorem oT {k j k' j':Nat}(h:pJ l m k j)(h':pJ l m k' j'):k=k'∧j=j':=by
 obtain⟨a1,a2,a3,a4,a5⟩:=h;obtain⟨b1,b2,b3,b4,b5⟩:=h';have hk:k=k':=by
  rcases Nat.lt_trichotomy k k' with h|h|h
  ·exact absurd (eG b2 h) (a4 (by omega))
  ·exact h
  ·exact absurd (eG a2 h) (b4 (by omega))
 subst hk;refine⟨rfl,?_⟩
 rcases Nat.lt_trichotomy j j' with h|h|h
 ·exact absurd (fB b3 (by omega) (by omega) h) (a5 (by omega))
 ·exact h
 ·exact absurd (fB a3 (by omega) (by omega) h) (b5 (by omega))
end
