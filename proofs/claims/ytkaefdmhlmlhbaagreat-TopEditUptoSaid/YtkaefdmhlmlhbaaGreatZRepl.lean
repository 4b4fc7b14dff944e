/-
  Part ZRepl.
-/
import Derived.Test.YtkaefdmhlmlhbaaGreatZClone
import Derived.Laws.CopyOwn
import Derived.Laws.Bits64b
import Derived.Deep.RegionLaw
import Derived.IntWalk
set_option maxRecDepth 100000
set_option maxHeartbeats 16000000
set_option linter.unusedVariables false
set_option linter.unusedSimpArgs false
namespace Go.Proofs.YtkaefdmhlmlhbaaGreat
open Go.RowKit
open _root_.And renaming intro→Bb
open _root_.List renaming getElem?_take→Nw,length_map→Cs,replicate→Au,take_append_of_le_length→J3a,take_of_length_le→Bi
open _root_.Nat renaming le_refl→Aj,mul_le_mul_right→J2x
open Value renaming int→At
section
variable {x:List Int}{w:World}{A:Option Addr}{g n base:Nat}
theorem dC (a:Nat)(ha:a<4294967296):bits .and .u64 (a:Int) 4294967295=(a:Int):=by
 exact I49
theorem cX (a:Nat)(ha:a<4294967296):IntKind.u64.wrap (a:Int)=(a:Int):=by rw[IntKind.wrap_u64];omega
theorem nO (a:Nat)(ha:a<4294967296):(a:Int)/4294967296=0:=by omega
theorem kX (a b p:Nat)(ha:a<4294967296)(hb:b<4294967296)(hp:a*b=p)(hq:p<4294967296)(w:World):
 Calls Tryz.prog 154 #[.int .u64 a,.int .u64 b] w fun e w'=>e=.returned (.tuple #[.int .u64 0,.int .u64 p])∧w'=w:=by
 have ha':=A6 ha;have hb':=A6 hb;have hq':=A6 hq;have hp':Hid ((a:Int)*(b:Int)=(p:Int)):=A6 (by rw[←hp];exact(Int.natCast_mul a b).symm)
 clear ha hb hq hp;go_enter Tryz.func154,Tryz.ntmps154
 go_wp2
 simp only[dC a ha'.out,dC b hb'.out,cX a ha'.out,cX b hb'.out,nO a ha'.out,nO b hb'.out,hp'.out,cX p hq'.out,nO p hq'.out,dC p hq'.out,Int.zero_mul,Int.mul_zero,Int.zero_add,Int.add_zero];go_ret2
 exact⟨rfl,rfl⟩
theorem uZ (a b p:Nat)(ha:a<4294967296)(hb:b<4294967296)(hp:a*b=p)(hq:p<4294967296)(w:World):
 Calls Tryz.prog 120 #[.int .u64 a,.int .u64 b] w fun e w'=>e=.returned (.tuple #[.int .u64 0,.int .u64 p])∧w'=w:=by
 have HC:=A6 (kX a b p ha hb hp hq w);clear hp ha hb hq;exact I52
def Hq (n:Nat)(x:List Int):List Int:=(Au n x).flatten
theorem Uz (a b:Nat)(x:List Int):Hq (a+b) x=Hq a x++Hq b x:=by
 unfold Hq;rw[←List.replicate_append_replicate,List.flatten_append]
theorem L3 (n:Nat)(x:List Int):(Hq n x).length=n*x.length:=by
 unfold Hq;rw[List.length_flatten];simp
theorem pK (x:List Int):Hq 1 x=x:=by simp[Hq]
theorem kH {n j q:Nat}(hj:j≤n)(hq:q≤(n-j)*x.length):(Hq n x).take (j*x.length+q)=(Hq n x).take (j*x.length)++(Hq n x).take q:=by
 have h1:Hq n x=Hq j x++Hq (n-j) x:=by rw[←Uz];congr 1;omega
 have h2:Hq n x=Hq (n-j) x++Hq j x:=by rw[←Uz];congr 1;omega
 have h3:(Hq n x).take q=(Hq (n-j) x).take q:=by rw[h2,J3a (by rw[L3];exact hq)]
 rw[h3,h1,List.take_append,L3];rw[Bi (by rw[L3];omega),J3a (by rw[L3];exact Aj _),Bi (l:=Hq j x) (by rw[L3];exact Aj _)]
 congr 2
 omega
theorem eB {n:Nat}(hn:1≤n):(Hq n x).take x.length=x:=by
 obtain⟨m,rfl⟩:∃m,n=1+m:=⟨n-1,by omega⟩
 rw[Uz,pK,J3a (Aj _),Bi (Aj _)]
theorem Tm {R:List Int}{k m n:Nat}(hR:R.length=n)(h:k+m≤n)(hs:R.take (k+m)=R.take k++R.take m):splice ((R.take k++Au (n-k) 0).map (At .i64)) k ((R.take m).map (At .i64))=(R.take (k+m)++Au (n-(k+m)) 0).map (At .i64):=by
 have hk:(R.take k).length=k:=by simp;omega
 have hm:(R.take m).length=m:=by simp;omega
 unfold splice;rw[←List.map_take,←List.map_drop,←List.map_append,←List.map_append]
 congr 1
 rw[J3a (by omega),Bi (by omega),Cs,hm,List.drop_append,hk,List.drop_of_length_le (by omega),List.nil_append,List.drop_replicate,←List.append_assoc,←hs]
 congr 2
 omega
def M0 (w:World)(g:Nat)(R:List Int)(k n:Nat):Prop:=Aq w g 3 ((R.take k++Au (n-k) 0).map (At .i64)).toArray
theorem M0.own {R:List Int}(h:M0 w g R n n)(hR:R.length=n)(hb:base≤g)(hn:n≤1000000):Av w base (some ⟨g,0,none⟩) n n R:=by
 have e:R.take n=R:=Bi (by omega)
 unfold M0 at h;rw[e,Nat.sub_self]at h;refine⟨by simp[hR],.inr ⟨g,n,_,rfl,hb,h,Aj _,by unfold maxLen;omega,by simp[hR],?_⟩⟩
 rw[Nat.mul_one];simp only[List.replicate_zero,List.append_nil,List.size_toArray,Cs,hR];exact Bi (by simp[hR])
theorem uG {c n m N:Nat}(hl:Bl w A m c x)(hm:1≤m)(hn:1≤n)(hN:m*n=N)(hNm:N≤1000000):
 Calls Tryz.prog 76 #[.slice A m c,.int .i64 n] w fun e w'=>(∃g,e=.returned (.slice (some ⟨g,0,none⟩) N N)∧Av w' w.heap.size (some ⟨g,0,none⟩) N N (Hq n x))∧An w w':=by
 obtain⟨i0,hi,hz0,hz1,hz2⟩:=info_parts Cb;have hxl:=hl.len;have hmN:m≤N:=by rw[←hN];exact Nat.le_mul_of_pos_right m hn
 have hnN:n≤N:=by rw[←hN];exact Nat.le_mul_of_pos_left n hm
 have HM:=A6 (uZ m n N (by omega) (by omega) hN (by omega) w)
 have HR:Hid ((Hq n x).length=N):=A6 (by rw[L3,hxl,Nat.mul_comm];exact hN)
 have HF:Hid ((Hq n x).take m=x):=A6 (by rw[←hxl];exact eB hn)
 have HS:Hid (∀j q,j≤n→q≤(n-j)*m→(Hq n x).take (j*m+q)=(Hq n x).take (j*m)++(Hq n x).take q):=A6 (by rw[←hxl];exact fun j q h1 h2=>kH h1 h2)
 obtain⟨R,hR⟩:∃R,Hq n x=R:=⟨_,rfl⟩;rw[hR]at HR HF HS;rw[hR];clear hR;obtain⟨ad,rfl,hc0⟩:=Rd.at_ hl (k:=0) (by omega)
 have HC0:=A6 hc0;have HNN:=A6 hN;have Hxl:=A6 hxl;have hmk:(Instr.makeSlice 25 (.int .i64 (N:Int)) (.int .i64 (N:Int))).run Tryz.prog w=
  .ok (.slice (some ⟨w.heap.size,0,none⟩) N N) (w.alloc (.cells (madeCells #[.int .i64 0] N) 3)):=by
  have h:=run_make (P:=Tryz.prog) w 25 3 i0 (.int .i64 0) Tryz.underlying25 hi hz0 .i64 .i64 (N:Int) (N:Int) (by omega) (by omega) (by rw[hz2];omega) (by omega)
  simpa[hz1,Value.cells]using h
 have hq2:((N:Int)≤9223372036854775807):=by omega
 clear hl hc0 hi hz0 hz1 hz2 hN hxl;go_enter Tryz.func76,Tryz.ntmps76
 go_wp2_with fail
 refine HM.out.mono ?_
 rintro e w' ⟨rfl,rfl⟩;have hb:M0 (w'.alloc (.cells (madeCells #[.int .i64 0] N) 3)) w'.heap.size R 0 N:=by
  have e:madeCells #[At .i64 0] N=((R.take 0++Au (N-0) 0).map (At .i64)).toArray:=by
   exact I112
  have:=Aq.new w' 3 (madeCells #[.int .i64 0] N);unfold M0;rw[←e];exact this
 have hx1:=An.alloc w' (.cells (madeCells #[.int .i64 0] N) 3);have HSR:Hid (∀(j:Nat) (v:Value),((R.take m).map (At .i64))[j]? = some v→(w'.alloc (.cells (madeCells #[.int .i64 0] N) 3)).cell? (ad.add j)=some v):=A6 fun j v hj=>by
  rw[HF.out]at hj;exact hx1.cell (HC0.out j v hj)
 have HON:Hid (∀v∈((R.take m).map (At .i64)),v.oneCell'=true):=A6 (by
  intro v hv;obtain⟨_,_,rfl⟩:=List.mem_map.1 hv
  rfl)
 have hcs:((R.take m).map (At .i64)).length=m:=by simp;have:=HR.out;omega
 have HFI:Hid (0+((R.take m).map (At .i64)).length≤((R.take 0++Au (N-0) 0).map (At .i64)).length):=A6 (by rw[hcs];simp;omega)
 have HMN:Hid (((R.take m).map (At .i64)).length=Nat.min m N):=A6 (by rw[hcs];exact(Nat.min_eq_left hmN).symm)
 have HB:=A6 hb;have HX:=A6 hx1;have hmin:min m R.length=m:=by rw[HR.out];exact Nat.min_eq_left hmN
 clear HM hb hx1 hcs HC0;go_wp2_with (refine wpList_copy_splice (o:=⟨some 33,_,_,_,_,_⟩) rfl (.tmp 31) (.tmp 32) 25 25 rfl 3 Tryz.underlying25 (by kernel_rfl) (some ⟨w'.heap.size,0,none⟩) (some ad) N N m c rfl rfl w'.heap.size 0 _ 3 HB.out ((R.take m).map (At .i64)) HMN.out (fun hp=>⟨rfl,ad,rfl,HSR.out⟩) HFI.out HON.out w'.heap.size w' HX.out (Aj _) ?_)
 intro w1 hb1 hx1;have hb2:Hid (M0 w1 w'.heap.size R m N):=A6 (by
  have:=hb1.out;have e:=Tm (R:=R) (k:=0) (m:=m) (n:=N) HR.out (by omega) (by simp)
  rw[Nat.zero_add]at e;unfold M0 Aq;rw[←e]
  simpa using this)
 have hx2:Hid (An w' w1):=A6 hx1;clear hb1 hx1 HX HB HSR HON HFI HMN
 try rw[hmin]
 clear hmin;go_wp2_with fail
 go_loopw [8] (fun v wr=>∃k:Nat,k≤N∧v=.int .i64 k∧Hid (∃j,1≤j∧j≤n∧k=j*m)∧Hid (M0 wr w'.heap.size R k N)∧Hid (An w' wr)) (fun v _=>N-(intOf v).toNat)
 case atStart=>exact⟨m,hmN,rfl,A6 ⟨1,by omega,hn,by omega⟩,hb2,hx2⟩
 case round=>
  clear hb2 hx2;obtain⟨k,hk,rfl,HP,HB,HX⟩:=hrel;by_cases hlt:k<N
  ·obtain⟨q,hq⟩:∃q,q=min k (N-k):=⟨_,rfl⟩
   have hk1:0<k:=by
    obtain⟨j,h1,_,h2⟩:=HP.out;rw[h2];exact Nat.mul_pos h1 hm
   have hq1:0<q:=by omega
   have hq2:k+q≤N:=by omega
   have HQ:=A6 hq;have HST:Hid (R.take (k+q)=R.take k++R.take q):=A6 (by
    obtain⟨j,h1,h2,h3⟩:=HP.out;rw[h3];refine HS.out j q h2 ?_
    have:(n-j)*m=N-k:=by rw[Nat.sub_mul,h3,Nat.mul_comm n m,HNN.out]
    omega)
   have HPn:Hid (∃j,1≤j∧j≤n∧k+q=j*m):=A6 (by
    obtain⟨j,h1,h2,h3⟩:=HP.out;have h4:(n-j)*m=N-k:=by rw[Nat.sub_mul,h3,Nat.mul_comm n m,HNN.out]
    rcases Nat.le_total j (n-j)with h5|h5
    ·have:k≤N-k:=by rw[←h4,h3];exact J2x m h5
     refine⟨j+j,by omega,by omega,?_⟩
     rw[Nat.add_mul,←h3];omega
    ·have:N-k≤k:=by rw[←h4,h3];exact J2x m h5
     refine⟨n,by omega,Aj _,?_⟩
     rw[Nat.mul_comm n m,HNN.out];omega)
   have hcs:((R.take q).map (At .i64)).length=q:=by simp;have:=HR.out;omega
   have HCS:=A6 hcs;have hne:¬N=k:=by omega
   have hw1:IntKind.i64.wrap ((k:Int)+(q:Int))=(k:Int)+(q:Int):=IntWalk.i64_in _ (by omega)
   clear hq hcs;have hxd:=HX.out.to_drew;have hbd:Hid (wr.drew.heap[w'.heap.size]? = some (.cells ((R.take k++Au (N-k) 0).map (At .i64)).toArray 3 (0,0))):=HB;have HCE:Hid (∀(j:Nat) (v:Value),((R.take q).map (At .i64))[j]? = some v→wr.drew.cell? ((⟨w'.heap.size,0,none⟩:Addr).add j)=some v):=A6 fun j v hj=>by
    have h1:=(List.getElem?_eq_some_iff.1 hj).1;rw[HCS.out]at h1;have h2:q≤k:=by have:=HQ.out;omega
    have e1:(⟨w'.heap.size,0,none⟩:Addr).add j=⟨w'.heap.size,j,none⟩:=by simp[Addr.add_lit]
    rw[e1];have h4:Aq wr.drew w'.heap.size 3 _:=hbd.out;rw[h4.cell j,←hj];simp only[List.getElem?_toArray,List.map_append];rw[List.getElem?_append_left (by simp;have:=HR.out;omega),List.getElem?_map,List.getElem?_map,Nw,if_pos (by omega),Nw,if_pos h1]
   have HON:Hid (∀v∈((R.take q).map (At .i64)),v.oneCell'=true):=A6 (by
    intro v hv;obtain⟨_,_,rfl⟩:=List.mem_map.1 hv
    rfl)
   have HFI:Hid (k+((R.take q).map (At .i64)).length≤((R.take k++Au (N-k) 0).map (At .i64)).length):=A6 (by rw[HCS.out];simp;have:=HR.out;omega)
   have HMN:Hid (((R.take q).map (At .i64)).length=Nat.min k (N-k)):=A6 (by rw[HCS.out];exact HQ.out)
   have hcut:=Sn (some ⟨w'.heap.size,0,none⟩) N N k hk;have hmq:min q R.length=q:=by rw[HR.out];exact Nat.min_eq_left (by omega)
   have HDP:Hid (cutA (some ⟨w'.heap.size,0,none⟩) N k=some ⟨w'.heap.size,k,none⟩):=A6 (by unfold cutA;rw[if_neg hne];simp[Addr.add_lit])
   have hall:=Bb HDP (Bb hcut HMN);clear HDP hcut HMN
   revert hall
   generalize cutA (some ⟨w'.heap.size,0,none⟩) N k=D;generalize hd:N-k=d at*;have HD:=A6 hd;clear hd;rintro⟨HDP,hcut,HMN⟩;go_wp2_with fail
   go_region_law (first
    |(
     refine step_copy_splice rfl (.tmp 41) (.tmp 44) 25 25 rfl 3 Tryz.underlying25 (by kernel_rfl) D (some ⟨w'.heap.size,0,none⟩) d d k N (by go_simp) (by go_simp) w'.heap.size k _ 3 hbd.out ((R.take q).map (At .i64)) HMN.out (fun hp=>⟨HDP.out,_,rfl,HCE.out⟩) HFI.out HON.out w'.heap.size w' hxd (Aj _) ?_
     intro w2 hb2 hx2
     skip))
   all_goals
    have hb3:Hid (M0 w2 w'.heap.size R (k+q) N):=A6 (by
     have:=hb2.out;have e:=Tm (R:=R) (k:=k) (m:=q) (n:=N) HR.out (by omega) HST.out
     unfold M0 Aq;rw[←e,HD.out]
     simpa using this)
    have hx3:Hid (An w' w2):=A6 hx2;clear hb2 hx2 hbd hxd HB HX HP;go_simp
    try simp only[hmq]
    clear hmq;go_wp2_with fail
    go_roundw
    case rel=>exact⟨k+q,hq2,by go_num,HPn,hb3,hx3⟩
    case measure=>simp[intOf];omega
  ·obtain rfl:k=N:=by omega
   go_wp2_with fail
   go_ret
   exact⟨⟨_,rfl,HB.out.own HR.out (Aj _) hNm⟩,HX.out⟩
theorem J1w:bits .and .u64 1 4294967295=1:=by decide
theorem zX (a:Nat)(ha:a<4294967296):bits .and .u64 (a:Int) 4294967295=(a:Int):=by
 exact I49
theorem yH (a:Nat)(ha:a<4294967296):IntKind.u64.wrap (a:Int)=(a:Int):=by rw[IntKind.wrap_u64];omega
theorem J2e (a:Nat)(ha:a<4294967296):(a:Int)/4294967296=0:=by omega
theorem kY (n:Nat)(hn:n<4294967296)(w:World):
 Calls Tryz.prog 154 #[.int .u64 1,.int .u64 n] w fun e w'=>e=.returned (.tuple #[.int .u64 0,.int .u64 n])∧w'=w:=by
 have hn':=A6 hn;go_enter Tryz.func154,Tryz.ntmps154
 go_wp2
 simp only[J1w,zX n hn'.out,yH n hn'.out,J2e n hn'.out,Int.one_mul,Int.zero_mul,Int.zero_add,Int.add_zero,Int.mul_zero];go_ret2
 exact⟨rfl,rfl⟩
theorem mul_one (n:Nat)(hn:n<4294967296)(w:World):
 Calls Tryz.prog 120 #[.int .u64 1,.int .u64 n] w fun e w'=>e=.returned (.tuple #[.int .u64 0,.int .u64 n])∧w'=w:=by
 have HC:=A6 (kY n hn w);exact I52
theorem Vm (x:Int){k m n:Nat}(h:k+m≤n):splice ((Au k x++Au (n-k) 0).map (At .i64)) k ((Au m x).map (At .i64))=(Au (k+m) x++Au (n-(k+m)) 0).map (At .i64):=by
 unfold splice;rw[←List.map_take,←List.map_drop,←List.map_append,←List.map_append]
 congr 1
 rw[List.take_append_of_le_length (by simp),List.take_of_length_le (by simp),List.length_map,List.length_replicate,List.drop_append,List.length_replicate,List.drop_of_length_le (by simp),List.nil_append,List.drop_replicate,←List.append_assoc,List.replicate_append_replicate]
 congr 2
 omega
def R0 (w:World)(g:Nat)(x:Int)(k n:Nat):Prop:=Aq w g 3 ((Au k x++Au (n-k) 0).map (At .i64)).toArray
theorem R0.own {x:Int}(h:R0 w g x n n)(hb:base≤g)(hn:n≤1000000):Av w base (some ⟨g,0,none⟩) n n (Au n x):=by
 refine⟨by simp,.inr ⟨g,n,_,rfl,hb,h,Aj _,by unfold maxLen;omega,by simp,?_⟩⟩
 simp
theorem Xj {c n:Nat}{x:Int}(hl:Bl w A 1 c [x])(hn:n≤1000000):
 Calls Tryz.prog 76 #[.slice A 1 c,.int .i64 n] w fun e w'=>(∃g,e=.returned (.slice (some ⟨g,0,none⟩) n n)∧Av w' w.heap.size (some ⟨g,0,none⟩) n n (Au n x))∧An w w':=by
 obtain⟨i0,hi,hz0,hz1,hz2⟩:=info_parts Cb;have HM:=A6 (mul_one n (by omega) w)
 have HL:=A6 hl;obtain⟨ad,rfl,hc0⟩:=hl.at_ (k:=0) (by omega)
 have c0:=hc0 0 (by omega)
 rw[Du]at c0;have hx0:gI [x] 0=x:=rfl;rw[hx0]at c0;have hmk:(Instr.makeSlice 25 (.int .i64 (n:Int)) (.int .i64 (n:Int))).run Tryz.prog w=
  .ok (.slice (some ⟨w.heap.size,0,none⟩) n n) (w.alloc (.cells (madeCells #[.int .i64 0] n) 3)):=by
  have h:=run_make (P:=Tryz.prog) w 25 3 i0 (.int .i64 0) Tryz.underlying25 hi hz0 .i64 .i64 (n:Int) (n:Int) (by omega) (by omega) (by rw[hz2];omega) (by omega)
  simpa[hz1,Value.cells]using h
 have hq2:((n:Int)≤9223372036854775807):=by omega
 clear hl hc0 hx0 hi hz0 hz1 hz2;go_enter Tryz.func76,Tryz.ntmps76
 go_wp2_with fail
 refine HM.out.mono ?_
 rintro e w' ⟨rfl,rfl⟩;have hb:R0 (w'.alloc (.cells (madeCells #[.int .i64 0] n) 3)) w'.heap.size x 0 n:=by
  have e:madeCells #[At .i64 0] n=((Au 0 x++Au (n-0) 0).map (At .i64)).toArray:=by
   exact I112
  have:=Aq.new w' 3 (madeCells #[.int .i64 0] n);unfold R0;rw[←e];exact this
 have hx1:=An.alloc w' (.cells (madeCells #[.int .i64 0] n) 3);have k0:=hx1.cell c0;obtain⟨m,hm⟩:∃m,m=min 1 n:=⟨_,rfl⟩;have hmn:m≤n:=by omega
 have hcs:((Au m x).map (At .i64)).length=m:=by simp
 have HCS:=A6 hcs;have HMN:=A6 hm;have HB:=A6 hb;have HX:=A6 hx1;have K0:=A6 k0;clear HM c0 hb hx1 k0 hm hcs;have hsrc:∀(j:Nat) (v:Value),((Au m x).map (At .i64))[j]? = some v→(w'.alloc (.cells (madeCells #[.int .i64 0] n) 3)).cell? (ad.add j)=some v:=fun j v hj=>by
  have h1:=(List.getElem?_eq_some_iff.1 hj).1;rw[HCS.out]at h1;have h2:m≤1:=by have:=HMN.out;omega
  obtain rfl:j=0:=by omega
  rw[Du];have h3:v=.int .i64 x:=by
   have:=(List.getElem?_eq_some_iff.1 hj).2
   simpa using this.symm
  rw[h3];exact K0.out
 have hone:∀v∈((Au m x).map (At .i64)),v.oneCell'=true:=by
  intro v hv;obtain⟨_,_,rfl⟩:=List.mem_map.1 hv
  rfl
 have hfit:0+((Au m x).map (At .i64)).length≤((Au 0 x++Au (n-0) 0).map (At .i64)).length:=by rw[HCS.out];simp;omega
 have hnn:((Au m x).map (At .i64)).length=Nat.min 1 n:=by rw[HCS.out];exact HMN.out
 have HSR:=A6 hsrc;have HON:=A6 hone;have HFI:=A6 hfit;have HNN:=A6 hnn;clear hsrc hone hfit hnn;go_wp2_with (refine wpList_copy_splice (o:=⟨some 33,_,_,_,_,_⟩) rfl (.tmp 31) (.tmp 32) 25 25 rfl 3 Tryz.underlying25 (by kernel_rfl) (some ⟨w'.heap.size,0,none⟩) (some ad) n n 1 c rfl rfl w'.heap.size 0 _ 3 HB.out ((Au m x).map (At .i64)) HNN.out (fun hp=>⟨rfl,ad,rfl,HSR.out⟩) HFI.out HON.out w'.heap.size w' HX.out (Aj _) ?_)
 intro w1 hb1 hx1;have hb2:Hid (R0 w1 w'.heap.size x m n):=A6 (by
  have:=hb1.out;have e:=Vm x (k:=0) (m:=m) (n:=n) (by omega)
  rw[Nat.zero_add]at e;unfold R0 Aq;rw[←e]
  simpa using this)
 have hx2:Hid (An w' w1):=A6 hx1;clear hb1 hx1 HX K0 HB HSR HON HFI HNN;go_wp2_with fail
 go_loopw [8] (fun v wr=>∃k:Nat,k≤n∧v=.int .i64 k∧Hid (n=0∨0<k)∧Hid (R0 wr w'.heap.size x k n)∧Hid (An w' wr)) (fun v _=>n-(intOf v).toNat)
 case atStart=>exact⟨m,hmn,rfl,A6 (by have:=HMN.out;omega),hb2,hx2⟩
 case round=>
  clear hb2 hx2 HMN HCS;obtain⟨k,hk,rfl,HP,HB,HX⟩:=hrel;by_cases hlt:k<n
  ·obtain⟨q,hq⟩:∃q,q=min k (n-k):=⟨_,rfl⟩
   have hq1:0<q:=by have:=HP.out;omega
   have hq2:k+q≤n:=by omega
   have HQ:=A6 hq;have hcs:((Au q x).map (At .i64)).length=q:=by simp
   have HCS:=A6 hcs;have hne:¬n=k:=by omega
   have hw1:IntKind.i64.wrap ((k:Int)+(q:Int))=(k:Int)+(q:Int):=IntWalk.i64_in _ (by omega)
   clear hq hcs;have hxd:=HX.out.to_drew;have hbd:Hid (wr.drew.heap[w'.heap.size]? = some (.cells ((Au k x++Au (n-k) 0).map (At .i64)).toArray 3 (0,0))):=HB;have hcells:∀(j:Nat) (v:Value),((Au q x).map (At .i64))[j]? = some v→wr.drew.cell? ((⟨w'.heap.size,0,none⟩:Addr).add j)=some v:=fun j v hj=>by
    have h1:=(List.getElem?_eq_some_iff.1 hj).1;rw[HCS.out]at h1;have h2:q≤k:=by have:=HQ.out;omega
    have e1:(⟨w'.heap.size,0,none⟩:Addr).add j=⟨w'.heap.size,j,none⟩:=by simp[Addr.add_lit]
    rw[e1];have h4:Aq wr.drew w'.heap.size 3 _:=hbd.out;rw[h4.cell j,←hj];simp only[List.getElem?_toArray,List.map_append,List.map_replicate];rw[List.getElem?_append_left (by simp;omega),List.getElem?_replicate,List.getElem?_replicate,if_pos (by omega),if_pos h1]
   have hone:∀v∈((Au q x).map (At .i64)),v.oneCell'=true:=by
    intro v hv;obtain⟨_,_,rfl⟩:=List.mem_map.1 hv
    rfl
   have HCE:=A6 hcells;have HON:=A6 hone;have hfit:k+((Au q x).map (At .i64)).length≤((Au k x++Au (n-k) 0).map (At .i64)).length:=by rw[HCS.out];simp;omega
   have HFI:=A6 hfit;have hnn:((Au q x).map (At .i64)).length=Nat.min k (n-k):=by rw[HCS.out];exact HQ.out
   have HNN:=A6 hnn;clear hcells hone hfit hnn;have hcut:=Sn (some ⟨w'.heap.size,0,none⟩) n n k hk;have HDP:Hid (cutA (some ⟨w'.heap.size,0,none⟩) n k=some ⟨w'.heap.size,k,none⟩):=A6 (by unfold cutA;rw[if_neg hne];simp[Addr.add_lit])
   have hall:=Bb HDP (Bb hcut HNN);clear HDP hcut HNN
   revert hall
   generalize cutA (some ⟨w'.heap.size,0,none⟩) n k=D;generalize n-k=d;rintro⟨HDP,hcut,HNN⟩;go_wp2_with fail
   go_region_law (first
    |(
     refine step_copy_splice rfl (.tmp 41) (.tmp 44) 25 25 rfl 3 Tryz.underlying25 (by kernel_rfl) D (some ⟨w'.heap.size,0,none⟩) d d k n (by go_simp) (by go_simp) w'.heap.size k _ 3 hbd.out ((Au q x).map (At .i64)) HNN.out (fun hp=>⟨HDP.out,_,rfl,HCE.out⟩) HFI.out HON.out w'.heap.size w' hxd (Aj _) ?_
     intro w2 hb2 hx2
     skip))
   all_goals
    have hb3:Hid (R0 w2 w'.heap.size x (k+q) n):=A6 (by
     have:=hb2.out;have e:=Vm x (k:=k) (m:=q) (n:=n) (by omega)
     unfold R0 Aq;rw[←e]
     simpa using this)
    have hx3:Hid (An w' w2):=A6 hx2;clear hb2 hx2 hbd hxd HB HX HP;go_simp
    go_wp2_with fail
    go_roundw
    case rel=>exact⟨k+q,hq2,by go_num,A6 (.inr (by omega)),hb3,hx3⟩
    case measure=>simp[intOf];omega
  ·obtain rfl:k=n:=by omega
   go_wp2_with fail
   go_ret
   exact⟨⟨_,rfl,HB.out.own (Aj _) hn⟩,HX.out⟩
end
