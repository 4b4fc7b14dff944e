/-
  Part ZConc.
-/
import Derived.Test.YtkaefdmhlmlhbaaGreatZBase
import Derived.Lib.AppendZerosOnto
set_option maxRecDepth 100000
set_option maxHeartbeats 16000000
set_option linter.unusedVariables false
set_option linter.unusedSimpArgs false
namespace Go.Proofs.YtkaefdmhlmlhbaaGreat
open Go.RowKit
open _root_.Go.Proofs.Tryz
open _root_.List renaming length_append→Be,take_of_length_le→Bi
open _root_.Nat renaming le_refl→Aj
open Value renaming int→Av
section
variable {ls:List (List Int)}{xs:List Value}{w:World}
theorem vL (n:Nat)(w:World)(hn:n≤1099511627776):
 Calls prog 163 #[.slice none 0 0,.int .i64 n] w fun e w'=>∃B c,e=.returned (.slice B 0 c)∧Ba w' w.heap.size B 0 c []∧n≤c∧An w w':=by
 obtain⟨i0,hi,bm,bz,az⟩:=info_parts Cd;rcases Nat.eq_zero_or_pos n with h0|h0
 ·subst h0
  go_enter func163,ntmps163
  go_wp2_with fail
  go_ret
  exact⟨none,0,rfl,Ba.nil _ _,Aj _,An.refl _⟩
 ·have de:∀ty,(Builtin.append_ #[25,3] ty #[(),n]).run prog w=
   .ok (.slice (some ⟨w,0,none⟩) n (grownCap w n 0 3)) (w.drew.alloc (.cells (Builtin.zeroCells (Av .i64 0).cells n++Builtin.zeroCells (Av .i64 0).cells (grownCap w n 0 3-n)) 3)):=fun ty=>by
   have h:=Lib.run_append_grow_zeros (P:=prog) w 25 3 ty 3 i0 (.int .i64 0) .i64 .i64 underlying25 underlying3 hi bm none 0 0 []
    (by simp[Builtin.firstCells]) n h0 (by omega) (by omega) (by omega) (by rw[az];omega)
    (by
     have:Builtin.nextslicecap (0+n) 0=n:=by unfold Builtin.nextslicecap;rw[if_pos (by omega)];omega
     rw[this,az];omega)
   simpa using h
  have mx:=grownCap_ge w n 0 3;have tt:=grownCap_le_maxLen w n 0 3 (by unfold maxLen;omega)
  have ac:Ba (w.drew.alloc (.cells (Builtin.zeroCells (Av .i64 0).cells n++Builtin.zeroCells (Av .i64 0).cells (grownCap w n 0 3-n)) 3)) w.heap.size (some ⟨w,0,none⟩) 0 (grownCap w n 0 3) []:=
   World.ownsRow_made w.drew _ _ (Aj _) tt (by simp[size_zeroCells,Value.cells];omega)
  obtain⟨G,hG⟩:∃G,G=grownCap w n 0 3:=⟨_,rfl⟩;rw[←hG]at de mx tt ac;have HM:=A6 tt;unfold maxLen at tt;clear hG;go_enter func163,ntmps163
  go_wp2_with (at_builtin;refine Tc rfl (.tmp 20) (.tmp 21) 25 3 rfl _ _ _ rfl rfl (de _) ?_)
  go_ret
  exact⟨_,G,rfl,ac,mx,(An.drew _).to_alloc _⟩
def Qw (w:World)(xs:List Value)(ls:List (List Int)):Prop:=
 xs.length=ls.length∧∀i,i<ls.length→∃A n c,xs[i]? = some (.slice A n c)∧Bj w A n c (ls[i]?.getD [])
theorem Qw.ext {w w':World}(h:Qw w xs ls)(he:An w w'):Qw w' xs ls:=
 ⟨h.1,fun i hi=>let ⟨A,n,c,h1,h2⟩:=h.2 i hi;⟨A,n,c,h1,h2.ext he⟩⟩
theorem Rd.lit (w:World)(t:TypeId)(xs:List Value){n:Nat}(hn:n=xs.length)(hm:n≤maxLen):Rd (w.alloc (.cells xs.toArray t)) 1 (some ⟨w,0,none⟩) n n xs:=by
 subst hn;refine⟨by simp,Aj _,hm,fun _=>⟨_,rfl,fun j u hu=>?_⟩⟩
 exact I61
theorem Rd.litAtConc (w:World)(t:TypeId)(xs:List Value){n g:Nat}(hg:g=w.heap.size)(hn:n=xs.length)(hm:n≤1000):Rd (w.alloc (.cells xs.toArray t)) 1 (some ⟨g,0,none⟩) n n xs:=by
 subst hg;exact Rd.lit w t xs hn (by unfold maxLen;omega)
theorem Bj.litAt (w:World)(t:TypeId)(l:List Int){n g:Nat}(hg:g=w.heap.size)(hn:n=l.length)(hm:n≤1000):Bj (w.alloc (.cells (l.map (Av .i64)).toArray t)) (some ⟨g,0,none⟩) n n l:=by
 subst hg;exact Rd.lit w t _ (by simpa using hn) (by unfold maxLen;omega)
theorem Qw.two {A B:Option Addr}{n c m d:Nat}{l l':List Int}(hA:Bj w A n c l)(hB:Bj w B m d l'):Qw w [.slice A n c,.slice B m d] [l,l']:=
 ⟨rfl,fun i hi=>by
  match i,hi with
  |0,_=>exact⟨A,n,c,rfl,hA⟩
  |1,_=>exact⟨B,m,d,rfl,hB⟩⟩
theorem Qw.three {A B C:Option Addr}{n c m d k e:Nat}{l l' vA:List Int}(hA:Bj w A n c l)(hB:Bj w B m d l')(hC:Bj w C k e vA):Qw w [.slice A n c,.slice B m d,.slice C k e] [l,l',vA]:=
 ⟨rfl,fun i hi=>by
  match i,hi with
  |0,_=>exact⟨A,n,c,rfl,hA⟩
  |1,_=>exact⟨B,m,d,rfl,hB⟩
  |2,_=>exact⟨C,k,e,rfl,hC⟩⟩
def Uu (ls:List (List Int))(k:Nat):Nat:=((ls.take k).flatten).length
theorem Zo {k:Nat}(h:k<ls.length):(ls.take (k+1)).flatten=(ls.take k).flatten++ls[k]?.getD []:=by
 have e:ls[k]?.getD []=ls[k]:=by simp[h]
 rw[e,List.take_succ_eq_append_getElem h,List.flatten_append]
 congr 1
 show [ls[k]].flatten=_
 simp
theorem sU {k:Nat}(h:k<ls.length):Uu ls (k+1)=Uu ls k+(ls[k]?.getD []).length:=by
 unfold Uu;rw[Zo h,Be]
theorem Vz (ls:List (List Int))(k:Nat):Uu ls k≤(ls.flatten).length:=by
 unfold Uu
 conv=>rhs;rw[←List.take_append_drop k ls,List.flatten_append,Be]
 omega
theorem Zx {S:Option Addr}{k ck:Nat}(hS:Rd w 1 S k ck xs)(hL:Qw w xs ls)(hk:ls.length=k)(CP:(ls.flatten).length≤1099511627776):
 Calls prog 134 #[.slice S k ck] w fun e w'=>∃B n c,e=.returned (.slice B n c)∧Ba w' w.heap.size B n c ls.flatten∧An w w':=by
 obtain⟨i0,hi,bm,bz,az⟩:=info_parts Cd;have CQ:=Nat.le_trans hS.ncap hS.nmax;unfold maxLen at CQ;have HK:=A6 hk;clear hk;go_enter func134,ntmps134
 go_wp2_with fail
 go_loop [3,11] (fun s i=>∃(j z:Nat),j≤k∧i=.int .i64 j∧s=.int .i64 z∧Hid (z=Uu ls j)) (fun _ i=>k-(intOf i).toNat)
 case atStart=>exact⟨0,0,by omega,rfl,rfl,by show 0=_;simp[Uu]⟩
 case round=>
  obtain⟨j,z,hj,rfl,rfl,hz⟩:=hrel;have vI:z≤1099511627776:=by have:=Vz ls j;have:=hz.out;omega
  by_cases ae:j<k
  ·obtain⟨sa,rfl,gj⟩:=hS.at_ ae
   obtain⟨A,n,c,hx,hi'⟩:=hL.2 j (by rw[HK.out];exact ae)
   have c1:=gj j _ hx;have wo:=sU (ls:=ls) (k:=j) (by rw[HK.out];exact ae)
   rw[hi'.len]at wo;have TU:=Vz ls (j+1);have az:Hid (z+n=Uu ls (j+1)):=by show _=_;rw[wo,hz.out]
   have hzn:z+n≤1099511627776:=by have:=az.out;omega
   clear gj hx wo TU;go_wp2_with fail
   go_round
   case rel=>exact⟨j+1,z+n,by omega,by go_num,by go_num,az⟩
   case measure=>simp[intOf];omega
  ·obtain rfl:j=k:=by omega
   have hzt:Hid (z=(ls.flatten).length):=by
    show _=_
    rw[hz.out];unfold Uu;rw[Bi (by rw[HK.out];omega)]
   clear hz;go_wp2_with fail
   refine(vL z _ vI).mono ?_
   rintro e w1 ⟨B,c,rfl,ac,vT,he⟩;go_wp2_with fail
   go_loopw [6,27] (fun v i w2=>∃(m:Nat) (D:Option Addr) (q cq:Nat),m≤j∧i=.int .i64 m∧v=.slice D q cq∧Ba w2 w.heap.size D q cq (ls.take m).flatten∧An w w2) (fun _ i _=>j-(intOf i).toNat)
   case atStart=>exact⟨0,B,0,c,by omega,rfl,rfl,by simpa using ac,he⟩
   case round=>
    clear ac he vT;obtain⟨m,D,q,cq,hm,rfl,rfl,ac,he⟩:=hrel;by_cases wu:m<j
    ·obtain⟨sa,rfl,gj⟩:=hS.at_ wu
     obtain⟨A,n,c',hx,hi'⟩:=hL.2 m (by rw[HK.out];exact wu)
     have c1:=he.cell (gj m _ hx);have dr:=ac.ints.len;have KO:=Zo (ls:=ls) (k:=m) (by rw[HK.out];exact wu)
     have hqn:q+n≤1099511627776:=by
      have h1:=Vz ls (m+1);unfold Uu at h1;rw[KO,Be,dr,hi'.len]at h1;omega
     have HF:=A6 KO;clear gj hx KO dr;go_wp2_with (at_builtin;refine Eh rfl (.tmp 31) (.tmp 32) 25 rfl w w.heap.size 3 i0 (.int .i64 0) 1 8 underlying25 hi bm bz az rfl (by decide) D q cq _ rfl ac A n c' _ rfl (hi'.ext he) ?_ ?_ ?_ he (Aj _) he.hsize ?_)
     ·exact hi'.one
     ·unfold maxLen;omega
     ·omega
     ·intro D' wD w3 ce _ _ fw
      have dh:Ba w3 w.heap.size D' (q+n) wD (ls.take (m+1)).flatten:=by
       rw[HF.out];simpa[Ba]using ce
      clear ac ce he;go_wp2_with fail
      go_roundw
      case rel=>exact⟨m+1,D',q+n,wD,by omega,by go_num,rfl,dh,fw⟩
      case measure=>simp[intOf];omega
    ·obtain rfl:m=j:=by omega
     rw[Bi (by rw[HK.out];omega)]at ac
     go_wp2_with fail
     go_ret
     exact⟨D,q,cq,rfl,ac,he⟩
end
