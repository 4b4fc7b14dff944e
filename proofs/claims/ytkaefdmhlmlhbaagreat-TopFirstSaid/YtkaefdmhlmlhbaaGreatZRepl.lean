/-
  Part ZRepl.
-/
import Derived.Test.YtkaefdmhlmlhbaaGreatZClone
import Derived.Laws.CopyOwn
import Derived.Laws.Bits64b
import Derived.Deep.RegionLaw
import Derived.IntWalk
set_option maxRecDepth 100000
set_option maxHeartbeats 16000000
set_option linter.unusedVariables false
set_option linter.unusedSimpArgs false
namespace Go.Proofs.YtkaefdmhlmlhbaaGreat
open Go.RowKit
open _root_.Go.Proofs.Tryz
open _root_.And renaming intro→Au
open _root_.List renaming getElem?_take→Po,length_map→Cx,replicate→Aw,take_append_of_le_length→J7n,take_of_length_le→Bi
open _root_.Nat renaming le_refl→Aj,mul_le_mul_right→J7k
open Value renaming int→Av
section
variable {x:List Int}{w:World}{A:Option Addr}{g n base:Nat}
theorem fU (a:Nat)(ha:a<4294967296):bits .and .u64 (a:Int) 4294967295=(a:Int):=by
 exact I52
theorem fO (a:Nat)(ha:a<4294967296):IntKind.u64.wrap (a:Int)=(a:Int):=by rw[IntKind.wrap_u64];omega
theorem rM (a:Nat)(ha:a<4294967296):(a:Int)/4294967296=0:=by omega
theorem oC (a b p:Nat)(ha:a<4294967296)(hb:b<4294967296)(hp:a*b=p)(hq:p<4294967296)(w:World):
 Calls prog 154 #[.int .u64 a,.int .u64 b] w fun e w'=>e=.returned (.tuple #[.int .u64 0,.int .u64 p])∧w'=w:=by
 have Ij:=A6 ha;have og:=A6 hb;have py:=A6 hq;have ji:Hid ((a:Int)*(b:Int)=(p:Int)):=A6 (by rw[←hp];exact(Int.natCast_mul a b).symm)
 clear ha hb hq hp;go_enter func154,ntmps154
 go_wp2
 simp only[fU a Ij.out,fU b og.out,fO a Ij.out,fO b og.out,rM a Ij.out,rM b og.out,ji.out,fO p py.out,rM p py.out,fU p py.out,Int.zero_mul,Int.mul_zero,Int.zero_add,Int.add_zero];go_ret2
 exact⟨rfl,rfl⟩
theorem zL (a b p:Nat)(ha:a<4294967296)(hb:b<4294967296)(hp:a*b=p)(hq:p<4294967296)(w:World):
 Calls prog 120 #[.int .u64 a,.int .u64 b] w fun e w'=>e=.returned (.tuple #[.int .u64 0,.int .u64 p])∧w'=w:=by
 have HC:=A6 (oC a b p ha hb hp hq w);clear hp ha hb hq;exact I55
def J7 (n:Nat)(x:List Int):List Int:=(Aw n x).flatten
theorem Wl (a b:Nat)(x:List Int):J7 (a+b) x=J7 a x++J7 b x:=by
 unfold J7;rw[←List.replicate_append_replicate,List.flatten_append]
theorem Lx (n:Nat)(x:List Int):(J7 n x).length=n*x.length:=by
 unfold J7;rw[List.length_flatten];simp
theorem tR (x:List Int):J7 1 x=x:=by simp[J7]
theorem nM {n j q:Nat}(hj:j≤n)(hq:q≤(n-j)*x.length):(J7 n x).take (j*x.length+q)=(J7 n x).take (j*x.length)++(J7 n x).take q:=by
 have h1:J7 n x=J7 j x++J7 (n-j) x:=by rw[←Wl];congr 1;omega
 have h2:J7 n x=J7 (n-j) x++J7 j x:=by rw[←Wl];congr 1;omega
 have h3:(J7 n x).take q=(J7 (n-j) x).take q:=by rw[h2,J7n (by rw[Lx];exact hq)]
 rw[h3,h1,List.take_append,Lx];rw[Bi (by rw[Lx];omega),J7n (by rw[Lx];exact Aj _),Bi (l:=J7 j x) (by rw[Lx];exact Aj _)]
 congr 2
 omega
theorem hY {n:Nat}(hn:1≤n):(J7 n x).take x.length=x:=by
 obtain⟨m,rfl⟩:∃m,n=1+m:=⟨n-1,by omega⟩
 rw[Wl,tR,J7n (Aj _),Bi (Aj _)]
theorem Up {R:List Int}{k m n:Nat}(hR:R.length=n)(h:k+m≤n)(hs:R.take (k+m)=R.take k++R.take m):splice ((R.take k++Aw (n-k) 0).map (Av .i64)) k ((R.take m).map (Av .i64))=(R.take (k+m)++Aw (n-(k+m)) 0).map (Av .i64):=by
 have hk:(R.take k).length=k:=by simp;omega
 have hm:(R.take m).length=m:=by simp;omega
 unfold splice;rw[←List.map_take,←List.map_drop,←List.map_append,←List.map_append]
 congr 1
 rw[J7n (by omega),Bi (by omega),Cx,hm,List.drop_append,hk,List.drop_of_length_le (by omega),List.nil_append,List.drop_replicate,←List.append_assoc,←hs]
 congr 2
 omega
def Mt (w:World)(g:Nat)(R:List Int)(k n:Nat):Prop:=Aq w g 3 ((R.take k++Aw (n-k) 0).map (Av .i64)).toArray
theorem Mt.own {R:List Int}(h:Mt w g R n n)(hR:R.length=n)(hb:base≤g)(hn:n≤1000000):Ba w base (some ⟨g,0,none⟩) n n R:=by
 have e:R.take n=R:=Bi (by omega)
 unfold Mt at h;rw[e,Nat.sub_self]at h;refine⟨by simp[hR],.inr ⟨g,n,_,rfl,hb,h,Aj _,by unfold maxLen;omega,by simp[hR],?_⟩⟩
 rw[Nat.mul_one];simp only[List.replicate_zero,List.append_nil,List.size_toArray,Cx,hR];exact Bi (by simp[hR])
theorem yT {c n m N:Nat}(hl:Bj w A m c x)(hm:1≤m)(hn:1≤n)(hN:m*n=N)(hNm:N≤1000000):
 Calls prog 76 #[.slice A m c,.int .i64 n] w fun e w'=>(∃g,e=.returned (.slice (some ⟨g,0,none⟩) N N)∧Ba w' w.heap.size (some ⟨g,0,none⟩) N N (J7 n x))∧An w w':=by
 obtain⟨i0,hi,bm,bz,az⟩:=info_parts Cd;have ld:=hl.len;have XO:m≤N:=by rw[←hN];exact Nat.le_mul_of_pos_right m hn
 have hnN:n≤N:=by rw[←hN];exact Nat.le_mul_of_pos_left n hm
 have HM:=A6 (zL m n N (by omega) (by omega) hN (by omega) w)
 have HR:Hid ((J7 n x).length=N):=A6 (by rw[Lx,ld,Nat.mul_comm];exact hN)
 have HF:Hid ((J7 n x).take m=x):=A6 (by rw[←ld];exact hY hn)
 have HS:Hid (∀j q,j≤n→q≤(n-j)*m→(J7 n x).take (j*m+q)=(J7 n x).take (j*m)++(J7 n x).take q):=A6 (by rw[←ld];exact fun j q h1 h2=>nM h1 h2)
 obtain⟨R,hR⟩:∃R,J7 n x=R:=⟨_,rfl⟩;rw[hR]at HR HF HS;rw[hR];clear hR;obtain⟨ad,rfl,z9⟩:=Rd.at_ hl (k:=0) (by omega)
 have zr:=A6 z9;have sh:=A6 hN;have Hxl:=A6 ld;have f6:(Instr.makeSlice 25 (.int .i64 (N:Int)) (.int .i64 (N:Int))).run prog w=
  .ok (.slice (some ⟨w,0,none⟩) N N) (w.alloc (.cells (madeCells #[(0:Int)] N) 3)):=by
  have h:=run_make (P:=prog) w 25 3 i0 (.int .i64 0) underlying25 hi bm .i64 .i64 (N:Int) (N:Int) (by omega) (by omega) (by rw[az];omega) (by omega)
  simpa[bz,Value.cells]using h
 have bf:((N:Int)≤9223372036854775807):=by omega
 clear hl z9 hi bm bz az hN ld;go_enter func76,ntmps76
 go_wp2_with fail
 refine HM.out.mono ?_
 rintro e w' ⟨rfl,rfl⟩;have hb:Mt (w'.alloc (.cells (madeCells #[(0:Int)] N) 3)) w'.heap.size R 0 N:=by
  have e:madeCells #[Av .i64 0] N=((R.take 0++Aw (N-0) 0).map (Av .i64)).toArray:=by
   exact I123
  have:=Aq.new w' 3 (madeCells #[(0:Int)] N);unfold Mt;rw[←e];exact this
 have ay:=An.alloc w' (.cells (madeCells #[(0:Int)] N) 3);have Oy:Hid (∀(j:Nat) (v:Value),((R.take m).map (Av .i64))[j]? = some v→(w'.alloc (.cells (madeCells #[(0:Int)] N) 3)).cell? (ad.add j)=some v):=A6 fun j v hj=>by
  rw[HF.out]at hj;exact ay.cell (zr.out j v hj)
 have rk:Hid (∀v∈((R.take m).map (Av .i64)),v.oneCell'=true):=A6 (by
  intro v hv;obtain⟨_,_,rfl⟩:=List.mem_map.1 hv
  rfl)
 have ff:((R.take m).map (Av .i64)).length=m:=by simp;have:=HR.out;omega
 have BV:Hid (0+((R.take m).map (Av .i64)).length≤((R.take 0++Aw (N-0) 0).map (Av .i64)).length):=A6 (by rw[ff];simp;omega)
 have pm:Hid (((R.take m).map (Av .i64)).length=Nat.min m N):=A6 (by rw[ff];exact(Nat.min_eq_left XO).symm)
 have HB:=A6 hb;have HX:=A6 ay;have rn:min m R.length=m:=by rw[HR.out];exact Nat.min_eq_left XO
 clear HM hb ay ff zr;go_wp2_with (refine wpList_copy_splice (o:=⟨some 33,_,_,_,_,_⟩) rfl (.tmp 31) (.tmp 32) 25 25 rfl 3 underlying25 (by kernel_rfl) (some ⟨w',0,none⟩) (some ad) N N m c rfl rfl w'.heap.size 0 _ 3 HB.out ((R.take m).map (Av .i64)) pm.out (fun hp=>⟨rfl,ad,rfl,Oy.out⟩) BV.out rk.out w'.heap.size w' HX.out (Aj _) ?_)
 intro w1 al ay;have ak:Hid (Mt w1 w'.heap.size R m N):=A6 (by
  have:=al.out;have e:=Up (R:=R) (k:=0) (m:=m) (n:=N) HR.out (by omega) (by simp)
  rw[Nat.zero_add]at e;unfold Mt Aq;rw[←e]
  simpa using this)
 have bt:Hid (An w' w1):=A6 ay;clear al ay HX HB Oy rk BV pm
 try rw[rn]
 clear rn;go_wp2_with fail
 go_loopw [8] (fun v wr=>∃k:Nat,k≤N∧v=.int .i64 k∧Hid (∃j,1≤j∧j≤n∧k=j*m)∧Hid (Mt wr w'.heap.size R k N)∧Hid (An w' wr)) (fun v _=>N-(intOf v).toNat)
 case atStart=>exact⟨m,XO,rfl,A6 ⟨1,by omega,hn,by omega⟩,ak,bt⟩
 case round=>
  clear ak bt;obtain⟨k,hk,rfl,HP,HB,HX⟩:=hrel;by_cases ae:k<N
  ·obtain⟨q,hq⟩:∃q,q=min k (N-k):=⟨_,rfl⟩
   have fv:0<k:=by
    obtain⟨j,h1,_,h2⟩:=HP.out;rw[h2];exact Nat.mul_pos h1 hm
   have bu:0<q:=by omega
   have bf:k+q≤N:=by omega
   have HQ:=A6 hq;have oh:Hid (R.take (k+q)=R.take k++R.take q):=A6 (by
    obtain⟨j,h1,h2,h3⟩:=HP.out;rw[h3];refine HS.out j q h2 ?_
    have:(n-j)*m=N-k:=by rw[Nat.sub_mul,h3,Nat.mul_comm n m,sh.out]
    omega)
   have HPn:Hid (∃j,1≤j∧j≤n∧k+q=j*m):=A6 (by
    obtain⟨j,h1,h2,h3⟩:=HP.out;have h4:(n-j)*m=N-k:=by rw[Nat.sub_mul,h3,Nat.mul_comm n m,sh.out]
    rcases Nat.le_total j (n-j)with h5|h5
    ·have:k≤N-k:=by rw[←h4,h3];exact J7k m h5
     refine⟨j+j,by omega,by omega,?_⟩
     rw[Nat.add_mul,←h3];omega
    ·have:N-k≤k:=by rw[←h4,h3];exact J7k m h5
     refine⟨n,by omega,Aj _,?_⟩
     rw[Nat.mul_comm n m,sh.out];omega)
   have ff:((R.take q).map (Av .i64)).length=q:=by simp;have:=HR.out;omega
   have wg:=A6 ff;have ai:¬N=k:=by omega
   have mg:IntKind.i64.wrap ((k:Int)+(q:Int))=(k:Int)+(q:Int):=IntWalk.i64_in _ (by omega)
   clear hq ff;have fj:=HX.out.to_drew;have l9:Hid (wr.drew.heap[w'.heap.size]? = some (.cells ((R.take k++Aw (N-k) 0).map (Av .i64)).toArray 3 (0,0))):=HB;have XN:Hid (∀(j:Nat) (v:Value),((R.take q).map (Av .i64))[j]? = some v→wr.drew.cell? ((⟨w',0,none⟩:Addr).add j)=some v):=A6 fun j v hj=>by
    have h1:=(List.getElem?_eq_some_iff.1 hj).1;rw[wg.out]at h1;have h2:q≤k:=by have:=HQ.out;omega
    have e1:(⟨w',0,none⟩:Addr).add j=⟨w',j,none⟩:=by simp[Addr.add_lit]
    rw[e1];have h4:Aq wr.drew w'.heap.size 3 _:=l9.out;rw[h4.cell j,←hj];simp only[List.getElem?_toArray,List.map_append];rw[List.getElem?_append_left (by simp;have:=HR.out;omega),List.getElem?_map,List.getElem?_map,Po,if_pos (by omega),Po,if_pos h1]
   have rk:Hid (∀v∈((R.take q).map (Av .i64)),v.oneCell'=true):=A6 (by
    intro v hv;obtain⟨_,_,rfl⟩:=List.mem_map.1 hv
    rfl)
   have BV:Hid (k+((R.take q).map (Av .i64)).length≤((R.take k++Aw (N-k) 0).map (Av .i64)).length):=A6 (by rw[wg.out];simp;have:=HR.out;omega)
   have pm:Hid (((R.take q).map (Av .i64)).length=Nat.min k (N-k)):=A6 (by rw[wg.out];exact HQ.out)
   have hcut:=Tw (some ⟨w',0,none⟩) N N k hk;have hmq:min q R.length=q:=by rw[HR.out];exact Nat.min_eq_left (by omega)
   have BW:Hid (cutA (some ⟨w',0,none⟩) N k=some ⟨w',k,none⟩):=A6 (by unfold cutA;rw[if_neg ai];simp[Addr.add_lit])
   have ax:=Au BW (Au hcut pm);clear BW hcut pm
   revert ax
   generalize cutA (some ⟨w',0,none⟩) N k=D;generalize hd:N-k=d at*;have HD:=A6 hd;clear hd;rintro⟨BW,hcut,pm⟩;go_wp2_with fail
   go_region_law (first
    |(
     refine step_copy_splice rfl (.tmp 41) (.tmp 44) 25 25 rfl 3 underlying25 (by kernel_rfl) D (some ⟨w',0,none⟩) d d k N (by go_simp) (by go_simp) w'.heap.size k _ 3 l9.out ((R.take q).map (Av .i64)) pm.out (fun hp=>⟨BW.out,_,rfl,XN.out⟩) BV.out rk.out w'.heap.size w' fj (Aj _) ?_
     intro w2 ak bt
     skip))
   all_goals
    have ap:Hid (Mt w2 w'.heap.size R (k+q) N):=A6 (by
     have:=ak.out;have e:=Up (R:=R) (k:=k) (m:=q) (n:=N) HR.out (by omega) oh.out
     unfold Mt Aq;rw[←e,HD.out]
     simpa using this)
    have bg:Hid (An w' w2):=A6 bt;clear ak bt l9 fj HB HX HP;go_simp
    try simp only[hmq]
    clear hmq;go_wp2_with fail
    go_roundw
    case rel=>exact⟨k+q,bf,by go_num,HPn,ap,bg⟩
    case measure=>simp[intOf];omega
  ·obtain rfl:k=N:=by omega
   go_wp2_with fail
   go_ret
   exact⟨⟨_,rfl,HB.out.own HR.out (Aj _) hNm⟩,HX.out⟩
theorem J6e:bits .and .u64 1 4294967295=1:=by decide
theorem J4g (a:Nat)(ha:a<4294967296):bits .and .u64 (a:Int) 4294967295=(a:Int):=by
 exact I52
theorem J2n (a:Nat)(ha:a<4294967296):IntKind.u64.wrap (a:Int)=(a:Int):=by rw[IntKind.wrap_u64];omega
theorem J6o (a:Nat)(ha:a<4294967296):(a:Int)/4294967296=0:=by omega
theorem oD (n:Nat)(hn:n<4294967296)(w:World):
 Calls prog 154 #[.int .u64 1,.int .u64 n] w fun e w'=>e=.returned (.tuple #[.int .u64 0,.int .u64 n])∧w'=w:=by
 have uc:=A6 hn;go_enter func154,ntmps154
 go_wp2
 simp only[J6e,J4g n uc.out,J2n n uc.out,J6o n uc.out,Int.one_mul,Int.zero_mul,Int.zero_add,Int.add_zero,Int.mul_zero];go_ret2
 exact⟨rfl,rfl⟩
theorem mul_one (n:Nat)(hn:n<4294967296)(w:World):
 Calls prog 120 #[.int .u64 1,.int .u64 n] w fun e w'=>e=.returned (.tuple #[.int .u64 0,.int .u64 n])∧w'=w:=by
 have HC:=A6 (oD n hn w);exact I55
theorem Xh (x:Int){k m n:Nat}(h:k+m≤n):splice ((Aw k x++Aw (n-k) 0).map (Av .i64)) k ((Aw m x).map (Av .i64))=(Aw (k+m) x++Aw (n-(k+m)) 0).map (Av .i64):=by
 unfold splice;rw[←List.map_take,←List.map_drop,←List.map_append,←List.map_append]
 congr 1
 rw[List.take_append_of_le_length (by simp),List.take_of_length_le (by simp),List.length_map,List.length_replicate,List.drop_append,List.length_replicate,List.drop_of_length_le (by simp),List.nil_append,List.drop_replicate,←List.append_assoc,List.replicate_append_replicate]
 congr 2
 omega
def S4 (w:World)(g:Nat)(x:Int)(k n:Nat):Prop:=Aq w g 3 ((Aw k x++Aw (n-k) 0).map (Av .i64)).toArray
theorem S4.own {x:Int}(h:S4 w g x n n)(hb:base≤g)(hn:n≤1000000):Ba w base (some ⟨g,0,none⟩) n n (Aw n x):=by
 refine⟨by simp,.inr ⟨g,n,_,rfl,hb,h,Aj _,by unfold maxLen;omega,by simp,?_⟩⟩
 simp
theorem Z9 {c n:Nat}{x:Int}(hl:Bj w A 1 c [x])(hn:n≤1000000):
 Calls prog 76 #[.slice A 1 c,.int .i64 n] w fun e w'=>(∃g,e=.returned (.slice (some ⟨g,0,none⟩) n n)∧Ba w' w.heap.size (some ⟨g,0,none⟩) n n (Aw n x))∧An w w':=by
 obtain⟨i0,hi,bm,bz,az⟩:=info_parts Cd;have HM:=A6 (mul_one n (by omega) w)
 have HL:=A6 hl;obtain⟨ad,rfl,z9⟩:=hl.at_ (k:=0) (by omega)
 have c0:=z9 0 (by omega)
 rw[Ei]at c0;have am:gI [x] 0=x:=rfl;rw[am]at c0;have f6:(Instr.makeSlice 25 (.int .i64 (n:Int)) (.int .i64 (n:Int))).run prog w=
  .ok (.slice (some ⟨w,0,none⟩) n n) (w.alloc (.cells (madeCells #[(0:Int)] n) 3)):=by
  have h:=run_make (P:=prog) w 25 3 i0 (.int .i64 0) underlying25 hi bm .i64 .i64 (n:Int) (n:Int) (by omega) (by omega) (by rw[az];omega) (by omega)
  simpa[bz,Value.cells]using h
 have bf:((n:Int)≤9223372036854775807):=by omega
 clear hl z9 am hi bm bz az;go_enter func76,ntmps76
 go_wp2_with fail
 refine HM.out.mono ?_
 rintro e w' ⟨rfl,rfl⟩;have hb:S4 (w'.alloc (.cells (madeCells #[(0:Int)] n) 3)) w'.heap.size x 0 n:=by
  have e:madeCells #[Av .i64 0] n=((Aw 0 x++Aw (n-0) 0).map (Av .i64)).toArray:=by
   exact I123
  have:=Aq.new w' 3 (madeCells #[(0:Int)] n);unfold S4;rw[←e];exact this
 have ay:=An.alloc w' (.cells (madeCells #[(0:Int)] n) 3);have k0:=ay.cell c0;obtain⟨m,hm⟩:∃m,m=min 1 n:=⟨_,rfl⟩;have vc:m≤n:=by omega
 have ff:((Aw m x).map (Av .i64)).length=m:=by simp
 have wg:=A6 ff;have pm:=A6 hm;have HB:=A6 hb;have HX:=A6 ay;have K0:=A6 k0;clear HM c0 hb ay k0 hm ff;have Ox:∀(j:Nat) (v:Value),((Aw m x).map (Av .i64))[j]? = some v→(w'.alloc (.cells (madeCells #[(0:Int)] n) 3)).cell? (ad.add j)=some v:=fun j v hj=>by
  have h1:=(List.getElem?_eq_some_iff.1 hj).1;rw[wg.out]at h1;have h2:m≤1:=by have:=pm.out;omega
  obtain rfl:j=0:=by omega
  rw[Ei];have h3:v=.int .i64 x:=by
   have:=(List.getElem?_eq_some_iff.1 hj).2
   simpa using this.symm
  rw[h3];exact K0.out
 have cm:∀v∈((Aw m x).map (Av .i64)),v.oneCell'=true:=by
  exact I139
 have yg:0+((Aw m x).map (Av .i64)).length≤((Aw 0 x++Aw (n-0) 0).map (Av .i64)).length:=by rw[wg.out];simp;omega
 have vt:((Aw m x).map (Av .i64)).length=Nat.min 1 n:=by rw[wg.out];exact pm.out
 have Oy:=A6 Ox;have rk:=A6 cm;have BV:=A6 yg;have sh:=A6 vt;clear Ox cm yg vt;go_wp2_with (refine wpList_copy_splice (o:=⟨some 33,_,_,_,_,_⟩) rfl (.tmp 31) (.tmp 32) 25 25 rfl 3 underlying25 (by kernel_rfl) (some ⟨w',0,none⟩) (some ad) n n 1 c rfl rfl w'.heap.size 0 _ 3 HB.out ((Aw m x).map (Av .i64)) sh.out (fun hp=>⟨rfl,ad,rfl,Oy.out⟩) BV.out rk.out w'.heap.size w' HX.out (Aj _) ?_)
 intro w1 al ay;have ak:Hid (S4 w1 w'.heap.size x m n):=A6 (by
  have:=al.out;have e:=Xh x (k:=0) (m:=m) (n:=n) (by omega)
  rw[Nat.zero_add]at e;unfold S4 Aq;rw[←e]
  simpa using this)
 have bt:Hid (An w' w1):=A6 ay;clear al ay HX K0 HB Oy rk BV sh;go_wp2_with fail
 go_loopw [8] (fun v wr=>∃k:Nat,k≤n∧v=.int .i64 k∧Hid (n=0∨0<k)∧Hid (S4 wr w'.heap.size x k n)∧Hid (An w' wr)) (fun v _=>n-(intOf v).toNat)
 case atStart=>exact⟨m,vc,rfl,A6 (by have:=pm.out;omega),ak,bt⟩
 case round=>
  clear ak bt pm wg;obtain⟨k,hk,rfl,HP,HB,HX⟩:=hrel;by_cases ae:k<n
  ·obtain⟨q,hq⟩:∃q,q=min k (n-k):=⟨_,rfl⟩
   have bu:0<q:=by have:=HP.out;omega
   have bf:k+q≤n:=by omega
   have HQ:=A6 hq;have ff:((Aw q x).map (Av .i64)).length=q:=by simp
   have wg:=A6 ff;have ai:¬n=k:=by omega
   have mg:IntKind.i64.wrap ((k:Int)+(q:Int))=(k:Int)+(q:Int):=IntWalk.i64_in _ (by omega)
   clear hq ff;have fj:=HX.out.to_drew;have l9:Hid (wr.drew.heap[w'.heap.size]? = some (.cells ((Aw k x++Aw (n-k) 0).map (Av .i64)).toArray 3 (0,0))):=HB;have yh:∀(j:Nat) (v:Value),((Aw q x).map (Av .i64))[j]? = some v→wr.drew.cell? ((⟨w',0,none⟩:Addr).add j)=some v:=fun j v hj=>by
    have h1:=(List.getElem?_eq_some_iff.1 hj).1;rw[wg.out]at h1;have h2:q≤k:=by have:=HQ.out;omega
    have e1:(⟨w',0,none⟩:Addr).add j=⟨w',j,none⟩:=by simp[Addr.add_lit]
    rw[e1];have h4:Aq wr.drew w'.heap.size 3 _:=l9.out;rw[h4.cell j,←hj];simp only[List.getElem?_toArray,List.map_append,List.map_replicate];rw[List.getElem?_append_left (by simp;omega),List.getElem?_replicate,List.getElem?_replicate,if_pos (by omega),if_pos h1]
   have cm:∀v∈((Aw q x).map (Av .i64)),v.oneCell'=true:=by
    exact I139
   have XN:=A6 yh;have rk:=A6 cm;have yg:k+((Aw q x).map (Av .i64)).length≤((Aw k x++Aw (n-k) 0).map (Av .i64)).length:=by rw[wg.out];simp;omega
   have BV:=A6 yg;have vt:((Aw q x).map (Av .i64)).length=Nat.min k (n-k):=by rw[wg.out];exact HQ.out
   have sh:=A6 vt;clear yh cm yg vt;have hcut:=Tw (some ⟨w',0,none⟩) n n k hk;have BW:Hid (cutA (some ⟨w',0,none⟩) n k=some ⟨w',k,none⟩):=A6 (by unfold cutA;rw[if_neg ai];simp[Addr.add_lit])
   have ax:=Au BW (Au hcut sh);clear BW hcut sh
   revert ax
   generalize cutA (some ⟨w',0,none⟩) n k=D;generalize n-k=d;rintro⟨BW,hcut,sh⟩;go_wp2_with fail
   go_region_law (first
    |(
     refine step_copy_splice rfl (.tmp 41) (.tmp 44) 25 25 rfl 3 underlying25 (by kernel_rfl) D (some ⟨w',0,none⟩) d d k n (by go_simp) (by go_simp) w'.heap.size k _ 3 l9.out ((Aw q x).map (Av .i64)) sh.out (fun hp=>⟨BW.out,_,rfl,XN.out⟩) BV.out rk.out w'.heap.size w' fj (Aj _) ?_
     intro w2 ak bt
     skip))
   all_goals
    have ap:Hid (S4 w2 w'.heap.size x (k+q) n):=A6 (by
     have:=ak.out;have e:=Xh x (k:=k) (m:=q) (n:=n) (by omega)
     unfold S4 Aq;rw[←e]
     simpa using this)
    have bg:Hid (An w' w2):=A6 bt;clear ak bt l9 fj HB HX HP;go_simp
    go_wp2_with fail
    go_roundw
    case rel=>exact⟨k+q,bf,by go_num,A6 (.inr (by omega)),ap,bg⟩
    case measure=>simp[intOf];omega
  ·obtain rfl:k=n:=by omega
   go_wp2_with fail
   go_ret
   exact⟨⟨_,rfl,HB.out.own (Aj _) hn⟩,HX.out⟩
end
