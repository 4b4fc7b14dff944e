/-
  Part ZConc.
-/
import Derived.Test.YtiahhfglhlgfiaaGreatZBase
import Derived.Lib.AppendZerosOnto
set_option maxRecDepth 100000
set_option maxHeartbeats 16000000
set_option linter.unusedVariables false
set_option linter.unusedSimpArgs false
namespace Go.Proofs.YtiahhfglhlgfiaaGreat
open Go.RowKit
open _root_.List renaming length_append→Bl,take_of_length_le→Bj
open _root_.Nat renaming le_refl→Ai
open Value renaming int→Aq
section
variable {ls:List (List Int)}{xs:List Value}{w:World}
theorem nT (n:Nat)(w:World)(hn:n≤1099511627776):
 Calls Tryz.prog 109 #[.slice none 0 0,.int .i64 n] w fun e w'=>∃B c,e=.returned (.slice B 0 c)∧Av w' w.heap.size B 0 c []∧n≤c∧Al w w':=by
 obtain⟨i0,hi,hz0,hz1,hz2⟩:=info_parts Bz;rcases Nat.eq_zero_or_pos n with h0|h0
 ·subst h0
  go_enter Tryz.func109,Tryz.ntmps109
  go_wp2_with fail
  go_ret
  exact⟨none,0,rfl,Av.nil _ _,Ai _,Al.refl _⟩
 ·have hrun:∀ty,(Builtin.append_ #[27,3] ty #[.slice none 0 0,.int .i64 (n:Int)]).run Tryz.prog w=
   .ok (.slice (some ⟨w.heap.size,0,none⟩) n (grownCap w n 0 3)) (w.drew.alloc (.cells (Builtin.zeroCells (Aq .i64 0).cells n++Builtin.zeroCells (Aq .i64 0).cells (grownCap w n 0 3-n)) 3)):=fun ty=>by
   have h:=Lib.run_append_grow_zeros (P:=Tryz.prog) w 27 3 ty 3 i0 (.int .i64 0) .i64 .i64 Tryz.underlying27 Tryz.underlying3 hi hz0 none 0 0 []
    (by simp[Builtin.firstCells]) n h0 (by omega) (by omega) (by omega) (by rw[hz2];omega)
    (by
     have:Builtin.nextslicecap (0+n) 0=n:=by unfold Builtin.nextslicecap;rw[if_pos (by omega)];omega
     rw[this,hz2];omega)
   simpa using h
  have hcap:=grownCap_ge w n 0 3;have hmax:=grownCap_le_maxLen w n 0 3 (by unfold maxLen;omega)
  have hown:Av (w.drew.alloc (.cells (Builtin.zeroCells (Aq .i64 0).cells n++Builtin.zeroCells (Aq .i64 0).cells (grownCap w n 0 3-n)) 3)) w.heap.size (some ⟨w.heap.size,0,none⟩) 0 (grownCap w n 0 3) []:=
   World.ownsRow_made w.drew _ _ (Ai _) hmax (by simp[size_zeroCells,Value.cells];omega)
  obtain⟨G,hG⟩:∃G,G=grownCap w n 0 3:=⟨_,rfl⟩;rw[←hG]at hrun hcap hmax hown;have HM:=A4 hmax;unfold maxLen at hmax;clear hG;go_enter Tryz.func109,Tryz.ntmps109
  go_wp2_with (at_builtin;refine Qo rfl (.tmp 20) (.tmp 21) 27 3 rfl _ _ _ rfl rfl (hrun _) ?_)
  go_ret
  exact⟨_,G,rfl,hown,hcap,(Al.drew _).to_alloc _⟩
def Np (w:World)(xs:List Value)(ls:List (List Int)):Prop:=
 xs.length=ls.length∧∀i,i<ls.length→∃A n c,xs[i]? = some (.slice A n c)∧Bi w A n c (ls[i]?.getD [])
theorem Np.ext {w w':World}(h:Np w xs ls)(he:Al w w'):Np w' xs ls:=
 ⟨h.1,fun i hi=>let ⟨A,n,c,h1,h2⟩:=h.2 i hi;⟨A,n,c,h1,h2.ext he⟩⟩
theorem Rd.lit (w:World)(t:TypeId)(xs:List Value){n:Nat}(hn:n=xs.length)(hm:n≤maxLen):Rd (w.alloc (.cells xs.toArray t)) 1 (some ⟨w.heap.size,0,none⟩) n n xs:=by
 subst hn;refine⟨by simp,Ai _,hm,fun _=>⟨_,rfl,fun j u hu=>?_⟩⟩
 exact I57
theorem Rd.litAtConc (w:World)(t:TypeId)(xs:List Value){n g:Nat}(hg:g=w.heap.size)(hn:n=xs.length)(hm:n≤1000):Rd (w.alloc (.cells xs.toArray t)) 1 (some ⟨g,0,none⟩) n n xs:=by
 subst hg;exact Rd.lit w t xs hn (by unfold maxLen;omega)
theorem Bi.litAt (w:World)(t:TypeId)(l:List Int){n g:Nat}(hg:g=w.heap.size)(hn:n=l.length)(hm:n≤1000):Bi (w.alloc (.cells (l.map (Aq .i64)).toArray t)) (some ⟨g,0,none⟩) n n l:=by
 subst hg;exact Rd.lit w t _ (by simpa using hn) (by unfold maxLen;omega)
theorem Np.two {A B:Option Addr}{n c m d:Nat}{l l':List Int}(hA:Bi w A n c l)(hB:Bi w B m d l'):Np w [.slice A n c,.slice B m d] [l,l']:=
 ⟨rfl,fun i hi=>by
  match i,hi with
  |0,_=>exact⟨A,n,c,rfl,hA⟩
  |1,_=>exact⟨B,m,d,rfl,hB⟩⟩
theorem Np.three {A B C:Option Addr}{n c m d k e:Nat}{l l' l'':List Int}(hA:Bi w A n c l)(hB:Bi w B m d l')(hC:Bi w C k e l''):Np w [.slice A n c,.slice B m d,.slice C k e] [l,l',l'']:=
 ⟨rfl,fun i hi=>by
  match i,hi with
  |0,_=>exact⟨A,n,c,rfl,hA⟩
  |1,_=>exact⟨B,m,d,rfl,hB⟩
  |2,_=>exact⟨C,k,e,rfl,hC⟩⟩
def Sc (ls:List (List Int))(k:Nat):Nat:=((ls.take k).flatten).length
theorem Wd {k:Nat}(h:k<ls.length):(ls.take (k+1)).flatten=(ls.take k).flatten++ls[k]?.getD []:=by
 have e:ls[k]?.getD []=ls[k]:=by simp[h]
 rw[e,List.take_succ_eq_append_getElem h,List.flatten_append]
 congr 1
 show [ls[k]].flatten=_
 simp
theorem lP {k:Nat}(h:k<ls.length):Sc ls (k+1)=Sc ls k+(ls[k]?.getD []).length:=by
 unfold Sc;rw[Wd h,Bl]
theorem Ti (ls:List (List Int))(k:Nat):Sc ls k≤(ls.flatten).length:=by
 unfold Sc
 conv=>rhs;rw[←List.take_append_drop k ls,List.flatten_append,Bl]
 omega
theorem Wl {S:Option Addr}{k ck:Nat}(hS:Rd w 1 S k ck xs)(hL:Np w xs ls)(hk:ls.length=k)(hsm:(ls.flatten).length≤1099511627776):
 Calls Tryz.prog 87 #[.slice S k ck] w fun e w'=>∃B n c,e=.returned (.slice B n c)∧Av w' w.heap.size B n c ls.flatten∧Al w w':=by
 obtain⟨i0,hi,hz0,hz1,hz2⟩:=info_parts Bz;have hkm:=Nat.le_trans hS.ncap hS.nmax;unfold maxLen at hkm;have HK:=A4 hk;clear hk;go_enter Tryz.func87,Tryz.ntmps87
 go_wp2_with fail
 go_loop [3,11] (fun s i=>∃(j z:Nat),j≤k∧i=.int .i64 j∧s=.int .i64 z∧Hid (z=Sc ls j)) (fun _ i=>k-(intOf i).toNat)
 case atStart=>exact⟨0,0,by omega,rfl,rfl,by show 0=_;simp[Sc]⟩
 case round=>
  obtain⟨j,z,hj,rfl,rfl,hz⟩:=hrel;have hzb:z≤1099511627776:=by have:=Ti ls j;have:=hz.out;omega
  by_cases hlt:j<k
  ·obtain⟨sa,rfl,hsc⟩:=hS.at_ hlt
   obtain⟨A,n,c,hx,hi'⟩:=hL.2 j (by rw[HK.out];exact hlt)
   have c1:=hsc j _ hx;have hts:=lP (ls:=ls) (k:=j) (by rw[HK.out];exact hlt)
   rw[hi'.len]at hts;have htm:=Ti ls (j+1);have hz2:Hid (z+n=Sc ls (j+1)):=by show _=_;rw[hts,hz.out]
   have hzn:z+n≤1099511627776:=by have:=hz2.out;omega
   clear hsc hx hts htm;go_wp2_with fail
   go_round
   case rel=>exact⟨j+1,z+n,by omega,by go_num,by go_num,hz2⟩
   case measure=>simp[intOf];omega
  ·obtain rfl:j=k:=by omega
   have hzt:Hid (z=(ls.flatten).length):=by
    show _=_
    rw[hz.out];unfold Sc;rw[Bj (by rw[HK.out];omega)]
   clear hz;go_wp2_with fail
   refine(nT z _ hzb).mono ?_
   rintro e w1 ⟨B,c,rfl,hown,hzc,he⟩;go_wp2_with fail
   go_loopw [6,27] (fun v i w2=>∃(m:Nat) (D:Option Addr) (q cq:Nat),m≤j∧i=.int .i64 m∧v=.slice D q cq∧Av w2 w.heap.size D q cq (ls.take m).flatten∧Al w w2) (fun _ i _=>j-(intOf i).toNat)
   case atStart=>exact⟨0,B,0,c,by omega,rfl,rfl,by simpa using hown,he⟩
   case round=>
    clear hown he hzc;obtain⟨m,D,q,cq,hm,rfl,rfl,hown,he⟩:=hrel;by_cases hlt2:m<j
    ·obtain⟨sa,rfl,hsc⟩:=hS.at_ hlt2
     obtain⟨A,n,c',hx,hi'⟩:=hL.2 m (by rw[HK.out];exact hlt2)
     have c1:=he.cell (hsc m _ hx);have hql:=hown.ints.len;have hfs:=Wd (ls:=ls) (k:=m) (by rw[HK.out];exact hlt2)
     have hqn:q+n≤1099511627776:=by
      have h1:=Ti ls (m+1);unfold Sc at h1;rw[hfs,Bl,hql,hi'.len]at h1;omega
     have HF:=A4 hfs;clear hsc hx hfs hql;go_wp2_with (at_builtin;refine Fn rfl (.tmp 31) (.tmp 32) 27 rfl w w.heap.size 3 i0 (.int .i64 0) 1 8 Tryz.underlying27 hi hz0 hz1 hz2 rfl (by decide) D q cq _ rfl hown A n c' _ rfl (hi'.ext he) ?_ ?_ ?_ he (Ai _) he.hsize ?_)
     ·exact hi'.one
     ·unfold maxLen;omega
     ·omega
     ·intro D' cq' w3 hown' _ _ he'
      have hown2:Av w3 w.heap.size D' (q+n) cq' (ls.take (m+1)).flatten:=by
       rw[HF.out];simpa[Av]using hown'
      clear hown hown' he;go_wp2_with fail
      go_roundw
      case rel=>exact⟨m+1,D',q+n,cq',by omega,by go_num,rfl,hown2,he'⟩
      case measure=>simp[intOf];omega
    ·obtain rfl:m=j:=by omega
     rw[Bj (by rw[HK.out];omega)]at hown
     go_wp2_with fail
     go_ret
     exact⟨D,q,cq,rfl,hown,he⟩
end
