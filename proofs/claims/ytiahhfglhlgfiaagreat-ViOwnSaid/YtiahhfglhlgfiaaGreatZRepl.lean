/-
  Part ZRepl.
-/
import Derived.Test.YtiahhfglhlgfiaaGreatZClone
import Derived.Laws.CopyOwn
import Derived.Laws.Bits64b
import Derived.Deep.RegionLaw
import Derived.IntWalk
set_option maxRecDepth 100000
set_option maxHeartbeats 16000000
set_option linter.unusedVariables false
set_option linter.unusedSimpArgs false
namespace Go.Proofs.YtiahhfglhlgfiaaGreat
open Go.RowKit
open _root_.And renaming intro→Be
open _root_.List renaming getElem?_take→Mg,length_map→D8,replicate→Ar,take_append_of_le_length→J0e,take_of_length_le→Bj
open _root_.Nat renaming le_refl→Ai
open Value renaming int→Aq
section
variable {x:List Int}{w:World}{A:Option Addr}{g n base:Nat}
theorem aU (a:Nat)(ha:a<4294967296):bits .and .u64 (a:Int) 4294967295=(a:Int):=by
 exact I49
theorem aP (a:Nat)(ha:a<4294967296):IntKind.u64.wrap (a:Int)=(a:Int):=by rw[IntKind.wrap_u64];omega
theorem kR (a:Nat)(ha:a<4294967296):(a:Int)/4294967296=0:=by omega
theorem iF (a b p:Nat)(ha:a<4294967296)(hb:b<4294967296)(hp:a*b=p)(hq:p<4294967296)(w:World):
 Calls Tryz.prog 72 #[.int .u64 a,.int .u64 b] w fun e w'=>e=.returned (.tuple #[.int .u64 0,.int .u64 p])∧w'=w:=by
 have ha':=A4 ha;have hb':=A4 hb;have hq':=A4 hq;have hp':Hid ((a:Int)*(b:Int)=(p:Int)):=A4 (by rw[←hp];exact(Int.natCast_mul a b).symm)
 clear ha hb hq hp;go_enter Tryz.func72,Tryz.ntmps72
 go_wp2
 simp only[aU a ha'.out,aU b hb'.out,aP a ha'.out,aP b hb'.out,kR a ha'.out,kR b hb'.out,hp'.out,aP p hq'.out,kR p hq'.out,aU p hq'.out,Int.zero_mul,Int.mul_zero,Int.zero_add,Int.add_zero];go_ret2
 exact⟨rfl,rfl⟩
theorem rC (a b p:Nat)(ha:a<4294967296)(hb:b<4294967296)(hp:a*b=p)(hq:p<4294967296)(w:World):
 Calls Tryz.prog 40 #[.int .u64 a,.int .u64 b] w fun e w'=>e=.returned (.tuple #[.int .u64 0,.int .u64 p])∧w'=w:=by
 have HC:=A4 (iF a b p ha hb hp hq w);clear hp ha hb hq;exact I52
def Gn (n:Nat)(x:List Int):List Int:=(Ar n x).flatten
theorem Tq (a b:Nat)(x:List Int):Gn (a+b) x=Gn a x++Gn b x:=by
 unfold Gn;rw[←List.replicate_append_replicate,List.flatten_append]
theorem Kd (n:Nat)(x:List Int):(Gn n x).length=n*x.length:=by
 unfold Gn;rw[List.length_flatten];simp
theorem mE (x:List Int):Gn 1 x=x:=by simp[Gn]
theorem gT {n j q:Nat}(hj:j≤n)(hq:q≤(n-j)*x.length):(Gn n x).take (j*x.length+q)=(Gn n x).take (j*x.length)++(Gn n x).take q:=by
 have h1:Gn n x=Gn j x++Gn (n-j) x:=by rw[←Tq];congr 1;omega
 have h2:Gn n x=Gn (n-j) x++Gn j x:=by rw[←Tq];congr 1;omega
 have h3:(Gn n x).take q=(Gn (n-j) x).take q:=by rw[h2,J0e (by rw[Kd];exact hq)]
 rw[h3,h1,List.take_append,Kd];rw[Bj (by rw[Kd];omega),J0e (by rw[Kd];exact Ai _),Bj (l:=Gn j x) (by rw[Kd];exact Ai _)]
 congr 2
 omega
theorem bW {n:Nat}(hn:1≤n):(Gn n x).take x.length=x:=by
 obtain⟨m,rfl⟩:∃m,n=1+m:=⟨n-1,by omega⟩
 rw[Tq,mE,J0e (Ai _),Bj (Ai _)]
theorem Rz {R:List Int}{k m n:Nat}(hR:R.length=n)(h:k+m≤n)(hs:R.take (k+m)=R.take k++R.take m):splice ((R.take k++Ar (n-k) 0).map (Aq .i64)) k ((R.take m).map (Aq .i64))=(R.take (k+m)++Ar (n-(k+m)) 0).map (Aq .i64):=by
 have hk:(R.take k).length=k:=by simp;omega
 have hm:(R.take m).length=m:=by simp;omega
 unfold splice;rw[←List.map_take,←List.map_drop,←List.map_append,←List.map_append]
 congr 1
 rw[J0e (by omega),Bj (by omega),D8,hm,List.drop_append,hk,List.drop_of_length_le (by omega),List.nil_append,List.drop_replicate,←List.append_assoc,←hs]
 congr 2
 omega
def L3 (w:World)(g:Nat)(R:List Int)(k n:Nat):Prop:=An w g 3 ((R.take k++Ar (n-k) 0).map (Aq .i64)).toArray
theorem L3.own {R:List Int}(h:L3 w g R n n)(hR:R.length=n)(hb:base≤g)(hn:n≤1000000):Av w base (some ⟨g,0,none⟩) n n R:=by
 have e:R.take n=R:=Bj (by omega)
 unfold L3 at h;rw[e,Nat.sub_self]at h;refine⟨by simp[hR],.inr ⟨g,n,_,rfl,hb,h,Ai _,by unfold maxLen;omega,by simp[hR],?_⟩⟩
 rw[Nat.mul_one];simp only[List.replicate_zero,List.append_nil,List.size_toArray,D8,hR];exact Bj (by simp[hR])
theorem qK {c n m N:Nat}(hl:Bi w A m c x)(hm:1≤m)(hn:1≤n)(hN:m*n=N)(hNm:N≤1000000):
 Calls Tryz.prog 23 #[.slice A m c,.int .i64 n] w fun e w'=>(∃g,e=.returned (.slice (some ⟨g,0,none⟩) N N)∧Av w' w.heap.size (some ⟨g,0,none⟩) N N (Gn n x))∧Al w w':=by
 obtain⟨i0,hi,hz0,hz1,hz2⟩:=info_parts Bz;have hxl:=hl.len;have hmN:m≤N:=by rw[←hN];exact Nat.le_mul_of_pos_right m hn
 have hnN:n≤N:=by rw[←hN];exact Nat.le_mul_of_pos_left n hm
 have HM:=A4 (rC m n N (by omega) (by omega) hN (by omega) w)
 have HR:Hid ((Gn n x).length=N):=A4 (by rw[Kd,hxl,Nat.mul_comm];exact hN)
 have HF:Hid ((Gn n x).take m=x):=A4 (by rw[←hxl];exact bW hn)
 have HS:Hid (∀j q,j≤n→q≤(n-j)*m→(Gn n x).take (j*m+q)=(Gn n x).take (j*m)++(Gn n x).take q):=A4 (by rw[←hxl];exact fun j q h1 h2=>gT h1 h2)
 obtain⟨R,hR⟩:∃R,Gn n x=R:=⟨_,rfl⟩;rw[hR]at HR HF HS;rw[hR];clear hR;obtain⟨ad,rfl,hc0⟩:=Rd.at_ hl (k:=0) (by omega)
 have HC0:=A4 hc0;have HNN:=A4 hN;have Hxl:=A4 hxl;have hmk:(Instr.makeSlice 27 (.int .i64 (N:Int)) (.int .i64 (N:Int))).run Tryz.prog w=
  .ok (.slice (some ⟨w.heap.size,0,none⟩) N N) (w.alloc (.cells (madeCells #[.int .i64 0] N) 3)):=by
  have h:=run_make (P:=Tryz.prog) w 27 3 i0 (.int .i64 0) Tryz.underlying27 hi hz0 .i64 .i64 (N:Int) (N:Int) (by omega) (by omega) (by rw[hz2];omega) (by omega)
  simpa[hz1,Value.cells]using h
 have hq2:((N:Int)≤9223372036854775807):=by omega
 clear hl hc0 hi hz0 hz1 hz2 hN hxl;go_enter Tryz.func23,Tryz.ntmps23
 go_wp2_with fail
 refine HM.out.mono ?_
 rintro e w' ⟨rfl,rfl⟩;have hb:L3 (w'.alloc (.cells (madeCells #[.int .i64 0] N) 3)) w'.heap.size R 0 N:=by
  have e:madeCells #[Aq .i64 0] N=((R.take 0++Ar (N-0) 0).map (Aq .i64)).toArray:=by
   exact I111
  have:=An.new w' 3 (madeCells #[.int .i64 0] N);unfold L3;rw[←e];exact this
 have hx1:=Al.alloc w' (.cells (madeCells #[.int .i64 0] N) 3);have HSR:Hid (∀(j:Nat) (v:Value),((R.take m).map (Aq .i64))[j]? = some v→(w'.alloc (.cells (madeCells #[.int .i64 0] N) 3)).cell? (ad.add j)=some v):=A4 fun j v hj=>by
  rw[HF.out]at hj;exact hx1.cell (HC0.out j v hj)
 have HON:Hid (∀v∈((R.take m).map (Aq .i64)),v.oneCell'=true):=A4 (by
  intro v hv;obtain⟨_,_,rfl⟩:=List.mem_map.1 hv
  rfl)
 have hcs:((R.take m).map (Aq .i64)).length=m:=by simp;have:=HR.out;omega
 have HFI:Hid (0+((R.take m).map (Aq .i64)).length≤((R.take 0++Ar (N-0) 0).map (Aq .i64)).length):=A4 (by rw[hcs];simp;omega)
 have HMN:Hid (((R.take m).map (Aq .i64)).length=Nat.min m N):=A4 (by rw[hcs];exact(Nat.min_eq_left hmN).symm)
 have HB:=A4 hb;have HX:=A4 hx1;have hmin:min m R.length=m:=by rw[HR.out];exact Nat.min_eq_left hmN
 clear HM hb hx1 hcs HC0;go_wp2_with (refine wpList_copy_splice (o:=⟨some 33,_,_,_,_,_⟩) rfl (.tmp 31) (.tmp 32) 27 27 rfl 3 Tryz.underlying27 (by kernel_rfl) (some ⟨w'.heap.size,0,none⟩) (some ad) N N m c rfl rfl w'.heap.size 0 _ 3 HB.out ((R.take m).map (Aq .i64)) HMN.out (fun hp=>⟨rfl,ad,rfl,HSR.out⟩) HFI.out HON.out w'.heap.size w' HX.out (Ai _) ?_)
 intro w1 hb1 hx1;have hb2:Hid (L3 w1 w'.heap.size R m N):=A4 (by
  have:=hb1.out;have e:=Rz (R:=R) (k:=0) (m:=m) (n:=N) HR.out (by omega) (by simp)
  rw[Nat.zero_add]at e;unfold L3 An;rw[←e]
  simpa using this)
 have hx2:Hid (Al w' w1):=A4 hx1;clear hb1 hx1 HX HB HSR HON HFI HMN
 try rw[hmin]
 clear hmin;go_wp2_with fail
 go_loopw [8] (fun v wr=>∃k:Nat,k≤N∧v=.int .i64 k∧Hid (∃j,1≤j∧j≤n∧k=j*m)∧Hid (L3 wr w'.heap.size R k N)∧Hid (Al w' wr)) (fun v _=>N-(intOf v).toNat)
 case atStart=>exact⟨m,hmN,rfl,A4 ⟨1,by omega,hn,by omega⟩,hb2,hx2⟩
 case round=>
  clear hb2 hx2;obtain⟨k,hk,rfl,HP,HB,HX⟩:=hrel;by_cases hlt:k<N
  ·obtain⟨q,hq⟩:∃q,q=min k (N-k):=⟨_,rfl⟩
   have hk1:0<k:=by
    obtain⟨j,h1,_,h2⟩:=HP.out;rw[h2];exact Nat.mul_pos h1 hm
   have hq1:0<q:=by omega
   have hq2:k+q≤N:=by omega
   have HQ:=A4 hq;have HST:Hid (R.take (k+q)=R.take k++R.take q):=A4 (by
    obtain⟨j,h1,h2,h3⟩:=HP.out;rw[h3];refine HS.out j q h2 ?_
    have:(n-j)*m=N-k:=by rw[Nat.sub_mul,h3,Nat.mul_comm n m,HNN.out]
    omega)
   have HPn:Hid (∃j,1≤j∧j≤n∧k+q=j*m):=A4 (by
    obtain⟨j,h1,h2,h3⟩:=HP.out;have h4:(n-j)*m=N-k:=by rw[Nat.sub_mul,h3,Nat.mul_comm n m,HNN.out]
    rcases Nat.le_total j (n-j)with h5|h5
    ·have:k≤N-k:=by rw[←h4,h3];exact Nat.mul_le_mul_right m h5
     refine⟨j+j,by omega,by omega,?_⟩
     rw[Nat.add_mul,←h3];omega
    ·have:N-k≤k:=by rw[←h4,h3];exact Nat.mul_le_mul_right m h5
     refine⟨n,by omega,Ai _,?_⟩
     rw[Nat.mul_comm n m,HNN.out];omega)
   have hcs:((R.take q).map (Aq .i64)).length=q:=by simp;have:=HR.out;omega
   have HCS:=A4 hcs;have hne:¬N=k:=by omega
   have hw1:IntKind.i64.wrap ((k:Int)+(q:Int))=(k:Int)+(q:Int):=IntWalk.i64_in _ (by omega)
   clear hq hcs;have hxd:=HX.out.to_drew;have hbd:Hid (wr.drew.heap[w'.heap.size]? = some (.cells ((R.take k++Ar (N-k) 0).map (Aq .i64)).toArray 3 (0,0))):=HB;have HCE:Hid (∀(j:Nat) (v:Value),((R.take q).map (Aq .i64))[j]? = some v→wr.drew.cell? ((⟨w'.heap.size,0,none⟩:Addr).add j)=some v):=A4 fun j v hj=>by
    have h1:=(List.getElem?_eq_some_iff.1 hj).1;rw[HCS.out]at h1;have h2:q≤k:=by have:=HQ.out;omega
    have e1:(⟨w'.heap.size,0,none⟩:Addr).add j=⟨w'.heap.size,j,none⟩:=by simp[Addr.add_lit]
    rw[e1];have h4:An wr.drew w'.heap.size 3 _:=hbd.out;rw[h4.cell j,←hj];simp only[List.getElem?_toArray,List.map_append];rw[List.getElem?_append_left (by simp;have:=HR.out;omega),List.getElem?_map,List.getElem?_map,Mg,if_pos (by omega),Mg,if_pos h1]
   have HON:Hid (∀v∈((R.take q).map (Aq .i64)),v.oneCell'=true):=A4 (by
    intro v hv;obtain⟨_,_,rfl⟩:=List.mem_map.1 hv
    rfl)
   have HFI:Hid (k+((R.take q).map (Aq .i64)).length≤((R.take k++Ar (N-k) 0).map (Aq .i64)).length):=A4 (by rw[HCS.out];simp;have:=HR.out;omega)
   have HMN:Hid (((R.take q).map (Aq .i64)).length=Nat.min k (N-k)):=A4 (by rw[HCS.out];exact HQ.out)
   have hcut:=Ra (some ⟨w'.heap.size,0,none⟩) N N k hk;have hmq:min q R.length=q:=by rw[HR.out];exact Nat.min_eq_left (by omega)
   have HDP:Hid (cutA (some ⟨w'.heap.size,0,none⟩) N k=some ⟨w'.heap.size,k,none⟩):=A4 (by unfold cutA;rw[if_neg hne];simp[Addr.add_lit])
   have hall:=Be HDP (Be hcut HMN);clear HDP hcut HMN
   revert hall
   generalize cutA (some ⟨w'.heap.size,0,none⟩) N k=D;generalize hd:N-k=d at*;have HD:=A4 hd;clear hd;rintro⟨HDP,hcut,HMN⟩;go_wp2_with fail
   go_region_law (first
    |(
     refine step_copy_splice rfl (.tmp 41) (.tmp 44) 27 27 rfl 3 Tryz.underlying27 (by kernel_rfl) D (some ⟨w'.heap.size,0,none⟩) d d k N (by go_simp) (by go_simp) w'.heap.size k _ 3 hbd.out ((R.take q).map (Aq .i64)) HMN.out (fun hp=>⟨HDP.out,_,rfl,HCE.out⟩) HFI.out HON.out w'.heap.size w' hxd (Ai _) ?_
     intro w2 hb2 hx2
     skip))
   all_goals
    have hb3:Hid (L3 w2 w'.heap.size R (k+q) N):=A4 (by
     have:=hb2.out;have e:=Rz (R:=R) (k:=k) (m:=q) (n:=N) HR.out (by omega) HST.out
     unfold L3 An;rw[←e,HD.out]
     simpa using this)
    have hx3:Hid (Al w' w2):=A4 hx2;clear hb2 hx2 hbd hxd HB HX HP;go_simp
    try simp only[hmq]
    clear hmq;go_wp2_with fail
    go_roundw
    case rel=>exact⟨k+q,hq2,by go_num,HPn,hb3,hx3⟩
    case measure=>simp[intOf];omega
  ·obtain rfl:k=N:=by omega
   go_wp2_with fail
   go_ret
   exact⟨⟨_,rfl,HB.out.own HR.out (Ai _) hNm⟩,HX.out⟩
theorem xN:bits .and .u64 1 4294967295=1:=by decide
theorem vJ (a:Nat)(ha:a<4294967296):bits .and .u64 (a:Int) 4294967295=(a:Int):=by
 exact I49
theorem uC (a:Nat)(ha:a<4294967296):IntKind.u64.wrap (a:Int)=(a:Int):=by rw[IntKind.wrap_u64];omega
theorem xV (a:Nat)(ha:a<4294967296):(a:Int)/4294967296=0:=by omega
theorem iG (n:Nat)(hn:n<4294967296)(w:World):
 Calls Tryz.prog 72 #[.int .u64 1,.int .u64 n] w fun e w'=>e=.returned (.tuple #[.int .u64 0,.int .u64 n])∧w'=w:=by
 have hn':=A4 hn;go_enter Tryz.func72,Tryz.ntmps72
 go_wp2
 simp only[xN,vJ n hn'.out,uC n hn'.out,xV n hn'.out,Int.one_mul,Int.zero_mul,Int.zero_add,Int.add_zero,Int.mul_zero];go_ret2
 exact⟨rfl,rfl⟩
theorem mul_one (n:Nat)(hn:n<4294967296)(w:World):
 Calls Tryz.prog 40 #[.int .u64 1,.int .u64 n] w fun e w'=>e=.returned (.tuple #[.int .u64 0,.int .u64 n])∧w'=w:=by
 have HC:=A4 (iG n hn w);exact I52
theorem U8 (x:Int){k m n:Nat}(h:k+m≤n):splice ((Ar k x++Ar (n-k) 0).map (Aq .i64)) k ((Ar m x).map (Aq .i64))=(Ar (k+m) x++Ar (n-(k+m)) 0).map (Aq .i64):=by
 unfold splice;rw[←List.map_take,←List.map_drop,←List.map_append,←List.map_append]
 congr 1
 rw[List.take_append_of_le_length (by simp),List.take_of_length_le (by simp),List.length_map,List.length_replicate,List.drop_append,List.length_replicate,List.drop_of_length_le (by simp),List.nil_append,List.drop_replicate,←List.append_assoc,List.replicate_append_replicate]
 congr 2
 omega
def Pw (w:World)(g:Nat)(x:Int)(k n:Nat):Prop:=An w g 3 ((Ar k x++Ar (n-k) 0).map (Aq .i64)).toArray
theorem Pw.own {x:Int}(h:Pw w g x n n)(hb:base≤g)(hn:n≤1000000):Av w base (some ⟨g,0,none⟩) n n (Ar n x):=by
 refine⟨by simp,.inr ⟨g,n,_,rfl,hb,h,Ai _,by unfold maxLen;omega,by simp,?_⟩⟩
 simp
theorem Vn {c n:Nat}{x:Int}(hl:Bi w A 1 c [x])(hn:n≤1000000):
 Calls Tryz.prog 23 #[.slice A 1 c,.int .i64 n] w fun e w'=>(∃g,e=.returned (.slice (some ⟨g,0,none⟩) n n)∧Av w' w.heap.size (some ⟨g,0,none⟩) n n (Ar n x))∧Al w w':=by
 obtain⟨i0,hi,hz0,hz1,hz2⟩:=info_parts Bz;have HM:=A4 (mul_one n (by omega) w)
 have HL:=A4 hl;obtain⟨ad,rfl,hc0⟩:=hl.at_ (k:=0) (by omega)
 have c0:=hc0 0 (by omega)
 rw[Dw]at c0;have hx0:gI [x] 0=x:=rfl;rw[hx0]at c0;have hmk:(Instr.makeSlice 27 (.int .i64 (n:Int)) (.int .i64 (n:Int))).run Tryz.prog w=
  .ok (.slice (some ⟨w.heap.size,0,none⟩) n n) (w.alloc (.cells (madeCells #[.int .i64 0] n) 3)):=by
  have h:=run_make (P:=Tryz.prog) w 27 3 i0 (.int .i64 0) Tryz.underlying27 hi hz0 .i64 .i64 (n:Int) (n:Int) (by omega) (by omega) (by rw[hz2];omega) (by omega)
  simpa[hz1,Value.cells]using h
 have hq2:((n:Int)≤9223372036854775807):=by omega
 clear hl hc0 hx0 hi hz0 hz1 hz2;go_enter Tryz.func23,Tryz.ntmps23
 go_wp2_with fail
 refine HM.out.mono ?_
 rintro e w' ⟨rfl,rfl⟩;have hb:Pw (w'.alloc (.cells (madeCells #[.int .i64 0] n) 3)) w'.heap.size x 0 n:=by
  have e:madeCells #[Aq .i64 0] n=((Ar 0 x++Ar (n-0) 0).map (Aq .i64)).toArray:=by
   exact I111
  have:=An.new w' 3 (madeCells #[.int .i64 0] n);unfold Pw;rw[←e];exact this
 have hx1:=Al.alloc w' (.cells (madeCells #[.int .i64 0] n) 3);have k0:=hx1.cell c0;obtain⟨m,hm⟩:∃m,m=min 1 n:=⟨_,rfl⟩;have hmn:m≤n:=by omega
 have hcs:((Ar m x).map (Aq .i64)).length=m:=by simp
 have HCS:=A4 hcs;have HMN:=A4 hm;have HB:=A4 hb;have HX:=A4 hx1;have K0:=A4 k0;clear HM c0 hb hx1 k0 hm hcs;have hsrc:∀(j:Nat) (v:Value),((Ar m x).map (Aq .i64))[j]? = some v→(w'.alloc (.cells (madeCells #[.int .i64 0] n) 3)).cell? (ad.add j)=some v:=fun j v hj=>by
  have h1:=(List.getElem?_eq_some_iff.1 hj).1;rw[HCS.out]at h1;have h2:m≤1:=by have:=HMN.out;omega
  obtain rfl:j=0:=by omega
  rw[Dw];have h3:v=.int .i64 x:=by
   have:=(List.getElem?_eq_some_iff.1 hj).2
   simpa using this.symm
  rw[h3];exact K0.out
 have hone:∀v∈((Ar m x).map (Aq .i64)),v.oneCell'=true:=by
  exact I125
 have hfit:0+((Ar m x).map (Aq .i64)).length≤((Ar 0 x++Ar (n-0) 0).map (Aq .i64)).length:=by rw[HCS.out];simp;omega
 have hnn:((Ar m x).map (Aq .i64)).length=Nat.min 1 n:=by rw[HCS.out];exact HMN.out
 have HSR:=A4 hsrc;have HON:=A4 hone;have HFI:=A4 hfit;have HNN:=A4 hnn;clear hsrc hone hfit hnn;go_wp2_with (refine wpList_copy_splice (o:=⟨some 33,_,_,_,_,_⟩) rfl (.tmp 31) (.tmp 32) 27 27 rfl 3 Tryz.underlying27 (by kernel_rfl) (some ⟨w'.heap.size,0,none⟩) (some ad) n n 1 c rfl rfl w'.heap.size 0 _ 3 HB.out ((Ar m x).map (Aq .i64)) HNN.out (fun hp=>⟨rfl,ad,rfl,HSR.out⟩) HFI.out HON.out w'.heap.size w' HX.out (Ai _) ?_)
 intro w1 hb1 hx1;have hb2:Hid (Pw w1 w'.heap.size x m n):=A4 (by
  have:=hb1.out;have e:=U8 x (k:=0) (m:=m) (n:=n) (by omega)
  rw[Nat.zero_add]at e;unfold Pw An;rw[←e]
  simpa using this)
 have hx2:Hid (Al w' w1):=A4 hx1;clear hb1 hx1 HX K0 HB HSR HON HFI HNN;go_wp2_with fail
 go_loopw [8] (fun v wr=>∃k:Nat,k≤n∧v=.int .i64 k∧Hid (n=0∨0<k)∧Hid (Pw wr w'.heap.size x k n)∧Hid (Al w' wr)) (fun v _=>n-(intOf v).toNat)
 case atStart=>exact⟨m,hmn,rfl,A4 (by have:=HMN.out;omega),hb2,hx2⟩
 case round=>
  clear hb2 hx2 HMN HCS;obtain⟨k,hk,rfl,HP,HB,HX⟩:=hrel;by_cases hlt:k<n
  ·obtain⟨q,hq⟩:∃q,q=min k (n-k):=⟨_,rfl⟩
   have hq1:0<q:=by have:=HP.out;omega
   have hq2:k+q≤n:=by omega
   have HQ:=A4 hq;have hcs:((Ar q x).map (Aq .i64)).length=q:=by simp
   have HCS:=A4 hcs;have hne:¬n=k:=by omega
   have hw1:IntKind.i64.wrap ((k:Int)+(q:Int))=(k:Int)+(q:Int):=IntWalk.i64_in _ (by omega)
   clear hq hcs;have hxd:=HX.out.to_drew;have hbd:Hid (wr.drew.heap[w'.heap.size]? = some (.cells ((Ar k x++Ar (n-k) 0).map (Aq .i64)).toArray 3 (0,0))):=HB;have hcells:∀(j:Nat) (v:Value),((Ar q x).map (Aq .i64))[j]? = some v→wr.drew.cell? ((⟨w'.heap.size,0,none⟩:Addr).add j)=some v:=fun j v hj=>by
    have h1:=(List.getElem?_eq_some_iff.1 hj).1;rw[HCS.out]at h1;have h2:q≤k:=by have:=HQ.out;omega
    have e1:(⟨w'.heap.size,0,none⟩:Addr).add j=⟨w'.heap.size,j,none⟩:=by simp[Addr.add_lit]
    rw[e1];have h4:An wr.drew w'.heap.size 3 _:=hbd.out;rw[h4.cell j,←hj];simp only[List.getElem?_toArray,List.map_append,List.map_replicate];rw[List.getElem?_append_left (by simp;omega),List.getElem?_replicate,List.getElem?_replicate,if_pos (by omega),if_pos h1]
   have hone:∀v∈((Ar q x).map (Aq .i64)),v.oneCell'=true:=by
    exact I125
   have HCE:=A4 hcells;have HON:=A4 hone;have hfit:k+((Ar q x).map (Aq .i64)).length≤((Ar k x++Ar (n-k) 0).map (Aq .i64)).length:=by rw[HCS.out];simp;omega
   have HFI:=A4 hfit;have hnn:((Ar q x).map (Aq .i64)).length=Nat.min k (n-k):=by rw[HCS.out];exact HQ.out
   have HNN:=A4 hnn;clear hcells hone hfit hnn;have hcut:=Ra (some ⟨w'.heap.size,0,none⟩) n n k hk;have HDP:Hid (cutA (some ⟨w'.heap.size,0,none⟩) n k=some ⟨w'.heap.size,k,none⟩):=A4 (by unfold cutA;rw[if_neg hne];simp[Addr.add_lit])
   have hall:=Be HDP (Be hcut HNN);clear HDP hcut HNN
   revert hall
   generalize cutA (some ⟨w'.heap.size,0,none⟩) n k=D;generalize n-k=d;rintro⟨HDP,hcut,HNN⟩;go_wp2_with fail
   go_region_law (first
    |(
     refine step_copy_splice rfl (.tmp 41) (.tmp 44) 27 27 rfl 3 Tryz.underlying27 (by kernel_rfl) D (some ⟨w'.heap.size,0,none⟩) d d k n (by go_simp) (by go_simp) w'.heap.size k _ 3 hbd.out ((Ar q x).map (Aq .i64)) HNN.out (fun hp=>⟨HDP.out,_,rfl,HCE.out⟩) HFI.out HON.out w'.heap.size w' hxd (Ai _) ?_
     intro w2 hb2 hx2
     skip))
   all_goals
    have hb3:Hid (Pw w2 w'.heap.size x (k+q) n):=A4 (by
     have:=hb2.out;have e:=U8 x (k:=k) (m:=q) (n:=n) (by omega)
     unfold Pw An;rw[←e]
     simpa using this)
    have hx3:Hid (Al w' w2):=A4 hx2;clear hb2 hx2 hbd hxd HB HX HP;go_simp
    go_wp2_with fail
    go_roundw
    case rel=>exact⟨k+q,hq2,by go_num,A4 (.inr (by omega)),hb3,hx3⟩
    case measure=>simp[intOf];omega
  ·obtain rfl:k=n:=by omega
   go_wp2_with fail
   go_ret
   exact⟨⟨_,rfl,HB.out.own (Ai _) hn⟩,HX.out⟩
end
