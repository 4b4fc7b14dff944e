/-
  Part ZMotM.
-/
import Derived.Test.YtkaefdmhlmlhbaaGreatZRopeM
set_option maxRecDepth 100000
set_option maxHeartbeats 16000000
set_option linter.unusedVariables false
set_option linter.unusedSimpArgs false
namespace Go.Proofs.YtkaefdmhlmlhbaaGreat
open Go.RowKit
open _root_.Nat renaming le_refl→Aj,le_trans→Ar,lt_or_ge→Ay,zero_le→Aw
open _root_.List renaming getElem?_cons_succ→Ag,getElem?_cons_zero→Af,getElem?_eq_getElem→Bm,getElem?_toArray→Ah,length_append→Ba,length_drop→Ch,length_take→Cj,length→Ll,replicate→Au
open Value renaming int→At,slice→Ak
section
variable {l b:List Int}{w:World}{A:Option Addr}{r:List Int×Nat}{j:Nat×List Int}{x y k:Nat}{n at_ off width c:Int}{big:Bool}
def J7 (l:List Int)(c:Int):Nat→Nat→Nat→Option Nat
 |0,_,_=>none
 |f+1,i,g=>if gI l i=c then(if g=1 then some i else J7 l c f (i+1) (g-1))else J7 l c f (i+1) g
def Kb (l:List Int)(c:Int):Nat→Nat→Option Nat
 |0,_=>none
 |m+1,g=>if gI l m=c then(if g=1 then some m else Kb l c m (g-1))else Kb l c m g
def Q8 (s:Nat→Nat):Nat→Nat→Nat
 |0,k=>k
 |g+1,k=>s (Q8 s g k)
def Fz (l:List Int):Nat:=if Et l true 0 0<l.length then Et l true 0 0 else l.length-1
def Ei (l:List Int)(k:Nat)(key:Int)(g:Nat)(op:Bool):Option (Nat×Bool):=
 if key=104 then(if k=0 then none else some (k-g,false))
 else if key=108 then(if(if op=true then l.length else l.length-1)≤k then none else some (min (if op=true then l.length else l.length-1) (k+g),false))
 else if key=48 then some (0,false)
 else if key=94 then some (Fz l,false)
 else if key=98 then(if k=0 then none else some (Q8 (Gb l · false) g k,false))
 else if key=66 then(if k=0 then none else some (Q8 (Gb l · true) g k,false))
 else if l.length=0 then none
 else if key=36 then some (l.length-1,true)
 else if key=124 then some (min g l.length-1,false)
 else if key=119 then(if op=true then some (Q8 (G7 l · false) g k,false)else if min (Q8 (G7 l · false) g k) (l.length-1)=k then none else some (min (Q8 (G7 l · false) g k) (l.length-1),false))
 else if key=87 then(if op=true then some (Q8 (G7 l · true) g k,false)else if min (Q8 (G7 l · true) g k) (l.length-1)=k then none else some (min (Q8 (G7 l · true) g k) (l.length-1),false))
 else if key=101 then(if op=false∧Q8 (Cu l · false) g k=k then none else some (Q8 (Cu l · false) g k,true))
 else if key=69 then(if op=false∧Q8 (Cu l · true) g k=k then none else some (Q8 (Cu l · true) g k,true))
 else none
def Ce (l:List Int)(k:Nat)(key:Int)(g:Nat)(op:Bool)(o:Option (Nat×Bool)):Prop:=
 if key=37 then(∃i m,Ui l k i m∧o=some (m,true))∨(noP l k∧o=none)else o=Ei l k key g op
def Yu (l:List Int)(k:Nat)(key arg:Int)(g:Nat):Option (Nat×Bool):=
 if key=102 then(J7 l arg (l.length-(k+1)) (k+1) g).map (·,true)
 else if key=116 then(J7 l arg (l.length-(k+1)) (k+1) g).map (· - 1,true)
 else if key=70 then(Kb l arg k g).map (·,false)
 else(Kb l arg k g).map (· + 1,false)
def Jp (key:Int):Bool:=decide (key=102∨key=116∨key=70∨key=84)
def Ko (key:Int):Bool:=decide (key=104∨key=108∨key=48∨key=94∨key=36∨key=124∨key=119∨key=87∨key=98∨key=66∨key=101∨key=69∨key=37)
def Wy (l:List Int)(k:Nat)(key arg:Int)(g:Nat)(op:Bool)(o:Option (Nat×Bool)):Prop:=
 if Jp key=true then o=Yu l k key arg g else Ce l k key g op o
theorem Rq {l:List Int}{c:Int}:∀{f i g j:Nat},J7 l c f i g=some j→i≤j∧j<i+f
 |0,_,_,_,h=>by simp[J7]at h
 |f+1,i,g,j,h=>by
  unfold J7 at h;split at h
  ·split at h
   ·simp at h;omega
   ·have:=Rq h;omega
  ·have:=Rq h;omega
theorem Rr {l:List Int}{c:Int}:∀{m g j:Nat},Kb l c m g=some j→j<m
 |0,_,_,h=>by simp[Kb]at h
 |m+1,g,j,h=>by
  unfold Kb at h;split at h
  ·split at h
   ·simp at h;omega
   ·have:=Rr h;omega
  ·have:=Rr h;omega
theorem Mq {s:Nat→Nat}{n:Nat}(hs:∀k,k≤n→s k≤n):∀g {k:Nat},k≤n→Q8 s g k≤n
 |0,k,h=>h
 |g+1,k,h=>hs _ (Mq hs g h)
theorem dD {s:Nat→Nat}{n:Nat}(hs:∀k,k≤n→s k<n):∀g {k:Nat},k<n→Q8 s g k<n
 |0,k,h=>h
 |g+1,k,h=>hs _ (Nat.le_of_lt (dD hs g h))
theorem Ro (hk:k≤l.length):G7 l k big≤l.length:=(cC (big:=big) hk).2.1
theorem iP (hk:k≤l.length)(h0:0<l.length):Cu l k big<l.length:=by
 rcases iO (big:=big) hk with h|h|h<;>omega
theorem iQ (hk:k≤l.length):Cu l k big≤l.length:=by
 rcases iO (big:=big) hk with h|h|h<;>omega
theorem lR (l:List Int):Fz l≤l.length-1:=by unfold Fz;split<;>omega
theorem Yg:∀k,k≤l.length→Gb l k big≤l.length:=fun k hk=>Ar (Mj hk) hk
theorem nW {key arg:Int}{g:Nat}{op:Bool}{o:Option (Nat×Bool)}(hk:k≤l.length-1)(hg:1≤g)(h:Wy l k key arg g op o){a:Nat}{i:Bool}(ho:o=some (a,i)):
 a≤l.length∧(op=false→a≤l.length-1)∧(i=true→a<l.length):=by
 have hkl:k≤l.length:=by omega
 subst ho;unfold Wy at h;split at h
 ·unfold Yu at h
  split at h
  ·exact I60
  split at h
  ·exact I60
  split at h
  ·exact I56
  ·exact I56
 ·unfold Ce at h
  split at h
  ·rcases h with⟨i',m,hf,he⟩|⟨_,he⟩
   ·injection he with he
    injection he with he1 he2;subst he1;subst he2;have h1:=hf.2.2.2.2.2;simp;omega
   ·cases he
  ·have e1:=Mq (fun k hk=>Ro (l:=l) (big:=false) hk) g hkl
   have e2:=Mq (fun k hk=>Ro (l:=l) (big:=true) hk) g hkl
   have e3:=Mq (Yg (l:=l) (big:=false)) g hkl;have e4:=Mq (Yg (l:=l) (big:=true)) g hkl;have e5:=Mq (fun k hk=>Ar (Mj (l:=l) (big:=false) (Ar hk (Nat.sub_le _ _))) hk) g hk
   have e6:=Mq (fun k hk=>Ar (Mj (l:=l) (big:=true) (Ar hk (Nat.sub_le _ _))) hk) g hk
   have e7:=lR l;have e8:0<l.length→Q8 (Cu l · false) g k<l.length:=fun h0=>dD (fun k hk=>iP hk h0) g (by omega)
   have e9:0<l.length→Q8 (Cu l · true) g k<l.length:=fun h0=>dD (fun k hk=>iP hk h0) g (by omega)
   unfold Ei at h;generalize Q8 (Cu l · false) g k=x1 at*;generalize Q8 (Cu l · true) g k=x2 at*;generalize Q8 (G7 l · false) g k=x3 at*;generalize Q8 (G7 l · true) g k=x4 at*;generalize Q8 (Gb l · false) g k=x5 at*;generalize Q8 (Gb l · true) g k=x6 at*;generalize Fz l=x7 at*;by_cases k1:key=104
   ·rw[if_pos k1]at h;by_cases j:k=0
    ·rw[if_pos j]at h;cases h
    ·rw[if_neg j]at h;cases h;simp;omega
   rw[if_neg k1]at h;by_cases k2:key=108
   ·rw[if_pos k2]at h
    cases op
    ·simp only[Bool.false_eq_true,if_false]at h
     by_cases j:l.length-1≤k
     ·rw[if_pos j]at h;cases h
     ·rw[if_neg j]at h;cases h;simp;omega
    ·simp only[if_true]at h
     by_cases j:l.length≤k
     ·rw[if_pos j]at h;cases h
     ·rw[if_neg j]at h;cases h;simp;omega
   rw[if_neg k2]at h;by_cases k3:key=48
   ·rw[if_pos k3]at h;cases h;simp
   rw[if_neg k3]at h;by_cases k4:key=94
   ·rw[if_pos k4]at h;cases h;simp;omega
   rw[if_neg k4]at h;by_cases k5:key=98
   ·rw[if_pos k5]at h;by_cases j:k=0
    ·rw[if_pos j]at h;cases h
    ·rw[if_neg j]at h;cases h;simp;exact⟨e3,fun _=>e5⟩
   rw[if_neg k5]at h;by_cases k6:key=66
   ·rw[if_pos k6]at h;by_cases j:k=0
    ·rw[if_pos j]at h;cases h
    ·rw[if_neg j]at h;cases h;simp;exact⟨e4,fun _=>e6⟩
   rw[if_neg k6]at h;by_cases k7:l.length=0
   ·rw[if_pos k7]at h;cases h
   rw[if_neg k7]at h;have e8':=e8 (by omega)
   have e9':=e9 (by omega)
   by_cases k8:key=36
   ·rw[if_pos k8]at h;cases h;simp;omega
   rw[if_neg k8]at h;by_cases k9:key=124
   ·rw[if_pos k9]at h;cases h;simp;omega
   rw[if_neg k9]at h;by_cases k10:key=119
   ·rw[if_pos k10]at h
    cases op
    ·simp only[Bool.false_eq_true,if_false]at h
     by_cases j:min x3 (l.length-1)=k
     ·rw[if_pos j]at h;cases h
     ·rw[if_neg j]at h;cases h;simp;omega
    ·simp only[if_true]at h
     cases h;simp;exact e1
   rw[if_neg k10]at h;by_cases k11:key=87
   ·rw[if_pos k11]at h
    cases op
    ·simp only[Bool.false_eq_true,if_false]at h
     by_cases j:min x4 (l.length-1)=k
     ·rw[if_pos j]at h;cases h
     ·rw[if_neg j]at h;cases h;simp;omega
    ·simp only[if_true]at h
     cases h;simp;exact e2
   rw[if_neg k11]at h;by_cases k12:key=101
   ·rw[if_pos k12]at h
    by_cases j:op=false∧x1=k
    ·rw[if_pos j]at h;cases h
    ·rw[if_neg j]at h;cases h;simp;omega
   rw[if_neg k12]at h;by_cases k13:key=69
   ·rw[if_pos k13]at h
    by_cases j:op=false∧x2=k
    ·rw[if_pos j]at h;cases h
    ·rw[if_neg j]at h;cases h;simp;omega
   rw[if_neg k13]at h;cases h
theorem U9 {key arg:Int}{g:Nat}{op:Bool}{o o':Option (Nat×Bool)}(h:Wy l k key arg g op o)(h':Wy l k key arg g op o'):o=o':=by
 unfold Wy at h h';split at h
 ·rename_i hf
  rw[if_pos hf]at h';rw[h,h']
 ·rename_i hf
  rw[if_neg hf]at h';unfold Ce at h h';split at h
  ·rename_i hk
   rw[if_pos hk]at h';rcases h with⟨i,m,h1,rfl⟩|⟨h1,rfl⟩<;>rcases h' with⟨i',m',h2,rfl⟩|⟨h2,rfl⟩
   ·rw[(fH h1 h2).2]
   ·exact absurd h2 (Xy h1)
   ·exact absurd h1 (Xy h2)
   ·rfl
  ·rename_i hk
   rw[if_neg hk]at h';rw[h,h']
def Nu (c:Int):Prop:=32≤c∧c≠127
theorem wQ (h:Nu c):Calls Tryz.prog 141 #[.int .i64 c] w fun e w'=>e=.returned (.bool false)∧w'=w:=by
 obtain⟨h1,h2⟩:=h;have h3:(c==127)=false:=by simpa using h2
 have h4:decide (c<32)=false:=by simpa using h1
 clear h2;go_enter Tryz.func141,Tryz.ntmps141
 go_wp2_with fail
 go_ret
 exact⟨rfl,rfl⟩
theorem vQ {n c:Nat}(hl:Bl w A n c l)(hg:∀k,k<n→Nu (gI l k)):
 Calls Tryz.prog 70 #[.slice A n c,.func (.func 141) #[] #[]] w fun e w'=>e=.returned (.int .i64 (-1))∧w'=w:=by
 have h1:=hl.ncap;have h2:=hl.nmax;unfold maxLen at h2;have HG:=A6 hg;clear hg;go_enter Tryz.func70,Tryz.ntmps70
 go_wp2_with fail
 go_loopw [8] (fun i wr=>∃k:Nat,k≤n∧i=.int .i64 k∧wr=w) (fun i _=>n-(intOf i).toNat)
 case atStart=>exact⟨0,by omega,rfl,rfl⟩
 case round=>
  obtain⟨k,hk,rfl,rfl⟩:=hrel;by_cases hlt:k<n
  ·obtain⟨a1,rfl,hc1⟩:=hl.at_ hlt
   have c1:=hc1 k hlt;clear hc1;go_wp2_with fail
   refine(wQ (HG.out k hlt)).mono ?_
   rintro e w1 ⟨rfl,rfl⟩;go_wp2_with fail
   go_roundw
   case rel=>exact⟨k+1,by omega,by go_num,trivial⟩
   case measure=>simp[intOf];omega
  ·obtain rfl:k=n:=by omega
   go_wp2_with fail
   go_ret
   exact⟨rfl,rfl⟩
theorem sD {n c:Nat}(hl:Bl w A n c l)(hg:∀k,k<n→Nu (gI l k)):
 Calls Tryz.prog 45 #[.slice A n c,.func (.func 141) #[] #[]] w fun e w'=>e=.returned (.bool false)∧w'=w:=by
 have h1:=hl.ncap;have h2:=hl.nmax;unfold maxLen at h2;have HG:=A6 hg;clear hg;go_enter Tryz.func45,Tryz.ntmps45
 go_wp2_with fail
 refine(vQ hl HG.out).mono ?_
 rintro e w1 ⟨rfl,rfl⟩;go_wp2_with fail
 go_ret
 exact⟨rfl,rfl⟩
theorem Q7 {n c:Nat}{at_:Int}(hl:Bl w A n c l)(hg:∀k,k<n→Nu (gI l k))(h1:2≤n)(h2:n≤120)(h3:0≤at_)(h4:at_≤n):
 Calls Tryz.prog 101 #[.agg #[.slice A n c,.int .i64 at_]] w fun e w'=>e=.returned (.int .i64 0)∧An w w':=by
 have hnc:=hl.ncap;have hcm:=hl.nmax;unfold maxLen at hcm;have HG:=A6 hg;clear hg;go_enter Tryz.func101,Tryz.ntmps101
 go_wp2_with fail
 refine(sD (hl.ext (An.alloc _ _)) HG.out).mono ?_
 rintro e w1 ⟨rfl,rfl⟩;go_wp2_with fail
 go_ret
 exact⟨rfl,An.alloc _ _⟩
theorem Aq.keepCell {g t:Nat}{cs:Array Value}(h:Aq w g t cs){p:Addr}(hp:p.block≠g)(u:Value):Aq (w.setCell p u) g t cs:=by
 exact I101
def Wq (n at_ off width:Int):Prop:=n<0∨n>200∨at_<0∨at_>n∨off<0∨off>200∨width<2∨width>120
instance (n at_ off width:Int):Decidable (Wq n at_ off width):=by unfold Wq;exact inferInstance
def Ph (at_ off width:Int):Int:=if at_<off then at_ else if at_≥off+width then at_-width+1 else off
def Qx (c:Int):Int:=if c<32∨c=127∨c=65533 then 63 else c
theorem fQ (c:Int):32≤Qx c∧Qx c≠127:=by unfold Qx;split<;>omega
theorem uF {a b c:Int}(h:a=b):Ending.returned (.tuple #[.int .i64 a,.int .i64 c])=.returned (.tuple #[.int .i64 b,.int .i64 c]):=by rw[h]
theorem Ti (h:¬Wq n at_ off width):
 Calls Tryz.prog 67 #[.int .i64 n,.int .i64 at_,.int .i64 off,.int .i64 width] w fun e w'=>e=.returned (.tuple #[.int .i64 (Ph at_ off width),.int .i64 0])∧w'=w:=by
 unfold Wq at h;have h1:0≤n:=by omega
 have h2:n≤200:=by omega
 have h3:0≤at_:=by omega
 have h4:at_≤n:=by omega
 have h5:0≤off:=by omega
 have h6:off≤200:=by omega
 have h7:2≤width:=by omega
 have h8:width≤120:=by omega
 clear h;go_enter Tryz.func67,Tryz.ntmps67
 go_wp2_with fail
 all_goals (go_ret2;refine⟨uF ?_,rfl⟩;unfold Ph;(repeat' split)<;>omega)
theorem wT (c:Int)(w:World):Calls Tryz.prog 100 #[.int .i64 c] w fun e w'=>e=.returned (.int .i64 (Qx c))∧w'=w:=by
 have HF:Hid (∀v,((c<32∨c=127∨c=65533)→v=63)→(¬(c<32∨c=127∨c=65533)→v=c)→v=Qx c):=A6 (fun v h1 h2=>by
  unfold Qx;split
  ·exact h1 ‹_›
  ·exact h2 ‹_›)
 rcases Decidable.em (c=127)with h|h
 ·subst h
  exact I82
 rcases Decidable.em (c=65533)with g|g
 ·subst g
  exact I82
 have b1:(c==127)=false:=by simpa using h
 have b2:(c==65533)=false:=by simpa using g
 have H1:=A6 h;have H2:=A6 g;clear h g;go_enter Tryz.func100,Tryz.ntmps100
 go_wp2_with fail
 all_goals (go_ret;have h1:=H1.out;have h2:=H2.out;refine⟨Jb (HF.out _ ?_ ?_),rfl⟩<;>intro hh<;>first|rfl|omega)
theorem uY (h:¬Wq n at_ off width)(hk:Ph at_ off width=off):
 Calls Tryz.prog 99 #[.int .i64 n,.int .i64 at_,.int .i64 off,.int .i64 width] w fun e w'=>e=.returned (.int .i64 0)∧w'=w:=by
 go_enter Tryz.func99,Tryz.ntmps99
 go_wp2_with fail
 refine(Ti h).mono ?_
 rintro e w1 ⟨rfl,rfl⟩;rw[hk];clear hk h;go_wp2_with fail
 go_ret
 exact⟨rfl,rfl⟩
def Mr (l:List Int)(k:Int)(i:Nat):Int:=if k+i<l.length then Qx (gI l (k+i).toNat)else 32
def J6 (l:List Int)(k:Int)(n:Nat):List Int:=(List.range n).map (Mr l k)
theorem kF (l:List Int)(k:Int)(n:Nat):J6 l k (n+1)=J6 l k n++[Mr l k n]:=by unfold J6;rw[List.range_succ,List.map_append];rfl
theorem aP (l:List Int)(k:Int)(n:Nat):(J6 l k n).length=n:=by unfold J6;simp
theorem uD (l:List Int)(k:Int){n i:Nat}(h:i<n):gI (J6 l k n) i=Mr l k i:=by unfold J6 gI;simp[h]
theorem cH (l:List Int)(k:Int)(i:Nat):Nu (Mr l k i):=by
 unfold Mr Nu;split
 ·exact fQ _
 ·omega
theorem zA {n c:Nat}{at_ k:Int}{width:Nat}(hl:Bl w A n c l)(h:¬Wq n at_ k width)(hk:Ph at_ k width=k):
 Calls Tryz.prog 68 #[.slice A n c,.int .i64 at_,.int .i64 k,.int .i64 width] w fun e w'=>∃B d,e=.returned (.tuple #[.agg #[.slice B width d,.int .i64 (at_-k)],.int .i64 0])∧Av w' w.heap.size B width d (J6 l k width)∧An w w':=by
 obtain⟨i0,hi,hz0,hz1,hz2⟩:=info_parts Cb;have HB:=A6 h;have HK:=A6 hk;have hlen:=A6 hl.len;unfold Wq at h;have h1:(n:Int)≤200:=by omega
 have h2:0≤at_:=by omega
 have h3:at_≤n:=by omega
 have h4:0≤k:=by omega
 have h5:k≤200:=by omega
 have h6:2≤width:=by omega
 have h7:width≤120:=by omega
 clear h hk;obtain⟨kn,rfl⟩:=Int.eq_ofNat_of_zero_le h4;have hnc:=hl.ncap;have hcm:=hl.nmax;unfold maxLen at hcm;go_enter Tryz.func68,Tryz.ntmps68
 go_wp2_with fail
 refine(uY HB.out HK.out).mono ?_
 rintro e w1 ⟨rfl,rfl⟩;go_wp2_with fail
 go_loopw [33] (fun i wr=>∃(j:Nat) (B:Option Addr) (d:Nat),j≤width∧i=.int .i64 j∧Aq wr w.heap.size 41 #[.slice none 0 0,.int .i64 0]∧Aq wr (w.heap.size+1) 41 #[.slice B j d,.int .i64 (at_-kn)]∧Av wr (w.heap.size+2) B j d (J6 l kn j)∧An w wr) (fun i _=>width-(intOf i).toNat)
 case atStart=>
  refine⟨0,none,0,by omega,rfl,(Aq.new _ _ _).ext (An.alloc _ _),?_,Av.nil _ _,(An.alloc _ _).to_alloc _⟩
  have:=Aq.new (w.alloc (Obj.cells #[Ak none 0 0,At IntKind.i64 0] 41)) 41 #[Ak none 0 0,At IntKind.i64 (at_-kn)]
  simpa using this
 case round=>
  obtain⟨j,B,d,hj,rfl,hb0,hb1,hown,he⟩:=hrel;have f1':=hb1.frozen 0;have c1:=hb1.cell 0;have hbs:=hb1.lt;simp only[Ah,Af,Ag]at c1;by_cases hlt:j<width
  ·by_cases hin:kn+j<n
   ·have N0:=trivial;exact K37
   ·have N1:=trivial;exact K37
  ·obtain rfl:j=width:=by omega
   have c2:=hb1.cell 1;have f0:=hb0.frozen 0;have f00:=hb0.frozen 1;have c4:=hb0.cell 0;have c5:=hb0.cell 1;simp only[Ah,Af,Ag]at c2 c4 c5;go_wp2_with fail
   have hbf:Aq ((wr.setCell ⟨w.heap.size,0,none⟩ (.slice B j d)).setCell ⟨w.heap.size,1,none⟩ (.int .i64 (at_-kn))) w.heap.size 41 #[.slice B j d,.int .i64 (at_-kn)]:=by
    simpa using(hb0.set_ 0 (.slice B j d)).set_ 1 (.int .i64 (at_-kn))
   have c6:=hbf.cell 0;have c7:=hbf.cell 1;simp only[Ah,Af,Ag]at c6 c7;clear c1 c2 c4 c5 f0 f00;refine bodyPost_ret (by simp[results,Tryz.results68,go_sem,c6,c7];try rfl) rfl ?_
   exact⟨B,d,rfl,Bd.lower (Bd.setCell (Bd.setCell hown (by simp) _) (by simp) _) (by omega),(he.setCell (by simp) _).setCell (by simp) _⟩
def T9 (r:List Int×Nat)(c:Int):List Int×Nat:=
 if c=8 then(r.1,r.2-1)else if c=13 then(r.1,0)else if c=11 then(r.1.take r.2++List.replicate (r.1.length-r.2) 32,r.2)
 else if 32≤c∧c≠127∧r.2<r.1.length then(r.1.set r.2 c,r.2+1)else r
def Ct (r:List Int×Nat)(s:List Int):List Int×Nat:=s.foldl T9 r
theorem J0i {k j:Nat}{v:Int}(hk:k<l.length):gI (l.set k v) j=if j=k then v else gI l j:=by
 unfold gI;by_cases h:j=k
 ·subst h;rw[if_pos rfl,List.getElem?_set_self hk];rfl
 ·rw[if_neg h,List.getElem?_set_ne (fun e=>h e.symm)]
theorem Rk (r:List Int×Nat)(a b:List Int):Ct r (a++b)=Ct (Ct r a) b:=by unfold Ct;rw[List.foldl_append]
def G9 (b:List Int)(x y:Nat):List Int:=
 if x≤y then(b.drop x).take (y-x)else if x-y≤1+y then Au (x-y) 8 else 13::b.take y
def J5 (b:List Int)(j:Nat×List Int)(k:Nat):Nat×List Int:=(k,j.2++G9 b j.1 k)
def Dg (b:List Int)(j:Nat×List Int)(x y:Nat):Nat×List Int:=(y,(J5 b j x).2++(b.drop x).take (y-x))
def Df (b:List Int)(j:Nat×List Int)(k:Nat):Nat×List Int:=(k,(J5 b j k).2++[11])
def Wl (a b:List Int)(to:Nat):Nat→Nat→Nat
 |0,k=>k
 |f+1,k=>if gI a k=gI b k then Wl a b to f (k+1)else k
def Wm (a b:List Int)(fr:Nat):Nat→Nat→Nat
 |0,k=>k
 |f+1,k=>if gI a (k-1)=gI b (k-1)then Wm a b fr f (k-1)else k
def Ew (a b:List Int)(x y:Nat):Nat:=Wl a b y (y-x) x
def Gu (a b:List Int)(x y:Nat):Nat:=Wm a b (Ew a b x y) (y-Ew a b x y) y
theorem Rt (a b:List Int)(to:Nat):∀(f k:Nat),k≤Wl a b to f k∧Wl a b to f k≤k+f∧(∀i,k≤i→i<Wl a b to f k→gI a i=gI b i)∧(Wl a b to f k<k+f→gI a (Wl a b to f k)≠gI b (Wl a b to f k))
 |0,k=>⟨Aj _,Aj _,fun i h1 h2=>by simp only[Wl]at h2;omega,fun h=>by simp[Wl]at h⟩
 |f+1,k=>by
  unfold Wl;split
  ·rename_i h
   obtain⟨h1,h2,h3,h4⟩:=Rt a b to f (k+1);refine⟨by omega,by omega,fun i hi hl=>?_,fun hl=>h4 (by omega)⟩
   rcases Nat.eq_or_lt_of_le hi with rfl|hlt
   ·exact h
   ·exact h3 i hlt hl
  ·exact I110
theorem Vc (a b:List Int)(fr:Nat):∀(f k:Nat),f≤k→Wm a b fr f k≤k∧k-f≤Wm a b fr f k∧(∀i,Wm a b fr f k≤i→i<k→gI a i=gI b i)∧(k-f<Wm a b fr f k→gI a (Wm a b fr f k-1)≠gI b (Wm a b fr f k-1))
 |0,k,_=>⟨Aj _,by simp[Wm],fun i h1 h2=>by simp only[Wm]at h1;omega,fun h=>by simp[Wm]at h⟩
 |f+1,k,hk=>by
  unfold Wm;split
  ·rename_i h
   obtain⟨h1,h2,h3,h4⟩:=Vc a b fr f (k-1) (by omega)
   refine⟨by omega,by omega,fun i hi hl=>?_,fun hl=>h4 (by omega)⟩
   rcases Ay i (k-1)with hlt|hge
   ·exact h3 i hi hlt
   ·rw[show i=k-1 by omega];exact h
  ·exact I110
theorem L4 (a b:List Int)(h:x≤y):x≤Ew a b x y∧Ew a b x y≤Gu a b x y∧Gu a b x y≤y∧(∀i,x≤i→i<Ew a b x y→gI a i=gI b i)∧(∀i,Gu a b x y≤i→i<y→gI a i=gI b i):=by
 obtain⟨h1,h2,h3,h4⟩:=Rt a b y (y-x) x;obtain⟨k1,k2,k3,_⟩:=Vc a b (Ew a b x y) (y-Ew a b x y) y (by omega)
 have e1:Ew a b x y=Wl a b y (y-x) x:=rfl;have e2:Gu a b x y=Wm a b (Ew a b x y) (y-Ew a b x y) y:=rfl;rw[←e1]at h1 h2 h3;rw[←e2]at k1 k2 k3;exact⟨h1,by omega,k1,h3,k3⟩
theorem mB (a b:List Int)(h:x≤y)(hlt:Ew a b x y<Gu a b x y):gI a (Gu a b x y-1)≠gI b (Gu a b x y-1):=by
 obtain⟨h1,h2,h3,h4⟩:=Rt a b y (y-x) x;have e1:Ew a b x y=Wl a b y (y-x) x:=rfl;exact(Vc a b (Ew a b x y) (y-Ew a b x y) y (by omega)).2.2.2 (by
  have e2:Gu a b x y=Wm a b (Ew a b x y) (y-Ew a b x y) y:=rfl;omega)
def F6 (b:List Int):Nat→Nat
 |0=>0
 |n+1=>if gI b n=32 then F6 b n else n+1
theorem Rp (b:List Int):∀n,F6 b n≤n∧∀i,F6 b n≤i→i<n→gI b i=32
 |0=>⟨Aj _,fun i _ h=>absurd h (by omega)⟩
 |n+1=>by
  unfold F6;split
  ·rename_i h
   obtain⟨h1,h2⟩:=Rp b n;refine⟨by omega,fun i hi hl=>?_⟩
   rcases Ay i n with hlt|hge
   ·exact h2 i hi hlt
   ·rw[show i=n by omega];exact h
  ·exact⟨Aj _,fun i h1 h2=>by omega⟩
def cS (b:List Int)(st at_ p:Nat):List Int:=(J5 b (Df b (st,[]) p) at_).2
def iX (b:List Int)(st at_ p lo hi:Nat):List Int:=(J5 b (Df b (Dg b (st,[]) lo hi) p) at_).2
def tO (b:List Int)(st at_ p lo hi:Nat):List Int:=(J5 b (Dg b (Df b (st,[]) p) lo hi) at_).2
def M5 (b:List Int)(st at_ p lo hi:Nat):List (List Int):=if lo<hi then [iX b st at_ p lo hi,tO b st at_ p lo hi]else [cS b st at_ p]
def J8 (x w:List Int):List Int:=if w.length<x.length then w else x
def G3 (best:List Int)(ws:List (List Int)):List Int:=ws.foldl J8 best
def Nd (b:List Int)(st at_ lo hi:Nat):Nat→Nat→List Int→List Int
 |0,_,best=>best
 |f+1,p,best=>Nd b st at_ lo hi f (p+1) (G3 best (M5 b st at_ p lo hi))
def Eh (a:List Int)(st:Nat)(b:List Int)(at_:Nat):List Int:=
 let n:=b.length
 let x:=Ew a b 0 n
 let y:=Gu a b 0 n
 if x<y then
  let best:=(J5 b (Dg b (st,[]) x y) at_).2
  let full:=F6 b n
  let fi:=Ew a b full n
  if fi<Gu a b full n then Nd b st at_ (Ew a b 0 full) (Gu a b 0 full) (fi+1-full) full best else best
 else(J5 b (st,[]) at_).2
theorem mT (x w:List Int):J8 x w=x∨J8 x w=w:=by unfold J8;split<;>simp
theorem mU (x w:List Int):(J8 x w).length≤x.length∧(J8 x w).length≤w.length:=by unfold J8;split<;>omega
theorem Wg {Q:List Int→Prop}:∀(ws:List (List Int)) (x:List Int),Q x→(∀w∈ws,Q w)→Q (G3 x ws)
 |[],x,h,_=>h
 |w::ws,x,h,h2=>Wg ws (J8 x w) (by rcases mT x w with e|e<;>rw[e];exact h;exact h2 w (by simp)) (fun v hv=>h2 v (by simp[hv]))
theorem Sz:∀(ws:List (List Int)) (x:List Int),(G3 x ws).length≤x.length∧∀w∈ws,(G3 x ws).length≤w.length
 |[],x=>⟨Aj _,fun w h=>by cases h⟩
 |v::ws,x=>by
  obtain⟨h1,h2⟩:=Sz ws (J8 x v);have h3:=mU x v;have e:G3 x (v::ws)=G3 (J8 x v) ws:=rfl;rw[e];refine⟨by omega,fun w hw=>?_⟩
  rcases List.mem_cons.1 hw with rfl|hw
  ·omega
  ·exact h2 w hw
theorem Yf {Q:List Int→Prop}{b:List Int}{st at_ lo hi:Nat}:∀(f p:Nat) (x:List Int),Q x→(∀q,p≤q→q<p+f→∀w∈M5 b st at_ q lo hi,Q w)→Q (Nd b st at_ lo hi f p x)
 |0,p,x,h,_=>h
 |f+1,p,x,h,h2=>Yf f (p+1) _ (Wg _ _ h (h2 p (Aj _) (by omega))) (fun q h3 h4=>h2 q (by omega) (by omega))
theorem bM {b:List Int}{st at_ lo hi:Nat}:∀(f p:Nat) (x:List Int),(Nd b st at_ lo hi f p x).length≤x.length
 |0,p,x=>Aj _
 |f+1,p,x=>Ar (bM f (p+1) _) (Sz _ _).1
theorem Ts {st at_ lo hi:Nat}(f p:Nat)(x:List Int){w:List Int}(hw:w∈M5 b st at_ p lo hi):(Nd b st at_ lo hi (f+1) p x).length≤w.length:=
 Ar (bM f (p+1) _) ((Sz _ _).2 w hw)
def Hh (b:List Int)(r r':List Int×Nat)(x y:Nat):Prop:=r'.1.length=r.1.length∧∀i,i<b.length→(gI r.1 i=gI b i∨x≤i∧i<y)→gI r'.1 i=gI b i
theorem Hh.refl (b:List Int)(r:List Int×Nat):Hh b r r 0 0:=⟨rfl,fun i _ h=>by rcases h with h|h;exact h;omega⟩
theorem Hh.less {r r':List Int×Nat}{x y x' y':Nat}(h:Hh b r r' x y)(hh:∀i,x'≤i→i<y'→x≤i∧i<y):Hh b r r' x' y':=⟨h.1,fun i hi hl=>h.2 i hi (hl.imp id (fun k=>hh i k.1 k.2))⟩
def okB (b:List Int):Prop:=∀k,k<b.length→Nu (gI b k)
theorem rD (h:Nu c):32≤c∧c≠127:=h
theorem jV {cs:List Int}{p:Nat}(h:Nu c)(hp:p<cs.length):T9 (cs,p) c=(cs.set p c,p+1):=by
 obtain⟨h1,h2⟩:=rD h;unfold T9;rw[if_neg (by omega),if_neg (by omega),if_neg (by omega),if_pos ⟨h1,h2,hp⟩]
theorem Mu {b:List Int}(hb:okB b):∀(m x:Nat) (cs:List Int),cs.length=b.length→x+m≤b.length→
 (Ct (cs,x) ((b.drop x).take m)).2=x+m∧Hh b (cs,x) (Ct (cs,x) ((b.drop x).take m)) x (x+m)
 |0,x,cs,hc,hm=>by
  simp only[List.take_zero,Ct,List.foldl_nil];exact⟨rfl,(Hh.refl b _).less (fun i h1 h2=>by omega)⟩
 |m+1,x,cs,hc,hm=>by
  have hx:x<b.length:=by omega
  have e:(b.drop x).take (m+1)=gI b x::(b.drop (x+1)).take m:=by
   rw[List.drop_eq_getElem_cons hx,List.take_succ_cons];simp[gI,hx]
  have e2:Ct (cs,x) ((b.drop x).take (m+1))=Ct (cs.set x (gI b x),x+1) ((b.drop (x+1)).take m):=by
   rw[e]
   show Ct (T9 (cs,x) (gI b x)) _=_
   rw[jV (hb x hx) (by omega)]
  obtain⟨h1,h2⟩:=Mu hb m (x+1) (cs.set x (gI b x)) (by simpa using hc) (by omega)
  rw[e2];refine⟨by omega,h2.1.trans (by simp),fun i hi hl=>?_⟩
  apply h2.2 i hi
  simp only;rw[J0i (by omega)]
  by_cases hix:i=x
  ·left;rw[if_pos hix,hix]
  ·rw[if_neg hix]
   rcases hl with hl|hl
   ·exact .inl hl
   ·exact .inr (by omega)
theorem Xf (cs:List Int):∀(m x:Nat),m≤x→Ct (cs,x) (Au m 8)=(cs,x-m)
 |0,x,_=>rfl
 |m+1,x,h=>by
  rw[List.replicate_succ]
  show Ct (T9 (cs,x) 8) _=_
  have:T9 (cs,x) 8=(cs,x-1):=rfl;rw[this,Xf cs m (x-1) (by omega),show x-1-m=x-(m+1)by omega]
theorem aL (hb:okB b){cs:List Int}(hc:cs.length=b.length)(hx:x≤b.length)(hy:y≤b.length):
 (Ct (cs,x) (G9 b x y)).2=y∧Hh b (cs,x) (Ct (cs,x) (G9 b x y)) x y:=by
 unfold G9;split
 ·rename_i h
  have:=Mu hb (y-x) x cs hc (by omega)
  rw[show x+(y-x)=y by omega]at this
  exact this
 ·rename_i h
  split
  ·rw[Xf cs _ _ (by omega)]
   exact⟨by simp only;omega,⟨rfl,fun i _ hl=>by rcases hl with hl|hl;exact hl;omega⟩⟩
  ·have e:Ct (cs,x) (13::b.take y)=Ct (cs,0) ((b.drop 0).take y):=rfl
   rw[e];have:=Mu hb y 0 cs hc (by omega)
   rw[Nat.zero_add]at this;refine⟨this.1,this.2.1,fun i hi hl=>this.2.2 i hi (hl.imp id (fun k=>by omega))⟩
def cQ (b:List Int)(r:List Int×Nat)(j:Nat×List Int)(x y:Nat):Prop:=(Ct r j.2).2=j.1∧Hh b r (Ct r j.2) x y∧j.1≤b.length
theorem cQ.start (b:List Int)(r:List Int×Nat)(h:r.2≤b.length):cQ b r (r.2,[]) 0 0:=⟨rfl,Hh.refl b r,h⟩
theorem P9 (r:List Int×Nat){p:Nat}(h:r.2=p):r=(r.1,p):=by rw[←h]
theorem cQ.to_ (hb:okB b)(hr:r.1.length=b.length){x y k:Nat}(h:cQ b r j x y)(hk:k≤b.length):cQ b r (J5 b j k) x y∧(j.1≤k→∀i,j.1≤i→i<k→gI (Ct r (J5 b j k).2).1 i=gI b i):=by
 obtain⟨h1,h2,h3⟩:=h;have e:Ct r (J5 b j k).2=Ct ((Ct r j.2).1,j.1) (G9 b j.1 k):=by
  show Ct r (j.2++G9 b j.1 k)=_
  rw[Rk,←P9 _ h1]
 obtain⟨k1,k2⟩:=aL hb (x:=j.1) (y:=k) (cs:=(Ct r j.2).1) (by rw[h2.1,hr]) h3 hk
 rw[←e]at k1 k2;refine⟨⟨k1,⟨k2.1.trans h2.1,fun i hi hl=>k2.2 i hi (.inl (h2.2 i hi hl))⟩,hk⟩,fun _ i h4 h5=>k2.2 i (by omega) (.inr ⟨h4,h5⟩)⟩
theorem cQ.over (hb:okB b)(hr:r.1.length=b.length){x y u v:Nat}(h:cQ b r j x y)(huv:u≤v)(hv:v≤b.length):
 cQ b r (Dg b j u v) x y∧cQ b r (Dg b j u v) u v:=by
 obtain⟨⟨h1,h2,h3⟩,_⟩:=h.to_ hb hr (k:=u) (by omega)
 have e:Ct r (Dg b j u v).2=Ct ((Ct r (J5 b j u).2).1,u) ((b.drop u).take (v-u)):=by
  show Ct r ((J5 b j u).2++(b.drop u).take (v-u))=_
  rw[Rk];rw[←P9 _ (show(Ct r (J5 b j u).2).2=u from h1)]
 obtain⟨k1,k2⟩:=Mu hb (v-u) u (Ct r (J5 b j u).2).1 (by rw[h2.1,hr]) (by omega)
 rw[←e,show u+(v-u)=v by omega]at k1 k2
 exact⟨⟨k1,⟨k2.1.trans h2.1,fun i hi hl=>k2.2 i hi (.inl (h2.2 i hi hl))⟩,hv⟩,⟨k1,⟨k2.1.trans h2.1,fun i hi hl=>by
  rcases hl with hl|hl
  ·exact k2.2 i hi (.inl (h2.2 i hi (.inl hl)))
  ·exact k2.2 i hi (.inr hl)⟩,hv⟩⟩
theorem cQ.erase (hb:okB b)(hr:r.1.length=b.length){x y k:Nat}(h:cQ b r j x y)(hk:k≤b.length)(hbl:∀i,k≤i→i<b.length→gI b i=32):
 cQ b r (Df b j k) x y∧cQ b r (Df b j k) k b.length:=by
 obtain⟨⟨h1,h2,h3⟩,_⟩:=h.to_ hb hr (k:=k) hk;have e:Ct r (Df b j k).2=T9 (Ct r (J5 b j k).2) 11:=by
  show Ct r ((J5 b j k).2++[11])=_
  rw[Rk];rfl
 have h1:(Ct r (J5 b j k).2).2=k:=h1;have hl1:(Ct r (J5 b j k).2).1.length=b.length:=by rw[h2.1,hr]
 have e2:T9 (Ct r (J5 b j k).2) 11=((Ct r (J5 b j k).2).1.take k++Au (b.length-k) 32,k):=by
  rw[P9 _ h1]
  show((Ct r (J5 b j k).2).1.take k++Au ((Ct r (J5 b j k).2).1.length-k) 32,k)=_
  rw[hl1]
 have key:∀i,i<b.length→gI (Ct r (Df b j k).2).1 i=if i<k then gI (Ct r (J5 b j k).2).1 i else 32:=fun i hi=>by
  rw[e,e2];unfold gI;simp only;split
  ·rename_i hik
   rw[List.getElem?_append_left (by rw[Cj];omega),List.getElem?_take,if_pos hik]
  ·rename_i hik
   rw[List.getElem?_append_right (by rw[Cj];omega),List.getElem?_replicate,if_pos (by rw[Cj];omega)]
   rfl
 have hlen:(Ct r (Df b j k).2).1.length=r.1.length:=by
  rw[e,e2,hr];simp only[Ba,Cj,List.length_replicate];omega
 have h2':(Ct r (Df b j k).2).2=k:=by rw[e,e2]
 refine⟨⟨h2',⟨hlen,fun i hi hl=>?_⟩,hk⟩,⟨h2',⟨hlen,fun i hi hl=>?_⟩,hk⟩⟩
 ·rw[key i hi]
  split
  ·exact h2.2 i hi hl
  ·rename_i hik;exact(hbl i (by omega) hi).symm
 ·rw[key i hi]
  split
  ·rename_i hik
   rcases hl with hl|hl
   ·exact h2.2 i hi (.inl hl)
   ·omega
  ·rename_i hik;exact(hbl i (by omega) hi).symm
theorem bQ {b c:List Int}(hc:c.length=b.length)(h:∀i,i<b.length→gI c i=gI b i):c=b:=by
 apply List.ext_getElem?
 intro i;rcases Ay i b.length with hi|hi
 ·have:=h i hi
  unfold gI at this;rw[Bm hi,Bm (by omega)]at this ⊢
  simpa using this
 ·rw[List.getElem?_eq_none hi,List.getElem?_eq_none (by omega)]
theorem tX (hx:x≤b.length)(hy:y≤b.length):(G9 b x y=[])↔x=y:=by
 unfold G9
 constructor
 ·intro h
  split at h
  ·have:=congrArg Ll h
   simp at this;omega
  ·split at h
   ·have:=congrArg Ll h
    simp at this;omega
   ·cases h
 ·rintro rfl
  simp
def Kk (x y:Nat):Nat:=if x≤y then y-x else min (x-y) (1+y)
theorem Lm (hx:x≤b.length)(hy:y≤b.length):(G9 b x y).length=Kk x y:=by
 unfold G9 Kk;split
 ·simp;omega
 ·exact I97
theorem jW {a b:List Int}{st at_:Nat}(hl:a.length=b.length)(hb:okB b)(hst:st≤b.length)(hat:at_≤b.length):
 Ct (a,st) (Eh a st b at_)=(b,at_)∧(Eh a st b at_).length≤2+F6 b b.length+Kk (F6 b b.length) at_∧(Eh a st b at_=[]↔a=b∧st=at_):=by
 obtain⟨d1,d2,d3,d4,d5⟩:=L4 a b (Aw b.length);obtain⟨f1,f2⟩:=Rp b b.length;have S0:=cQ.start b (a,st) hst;have hr:((a,st):List Int×Nat).1.length=b.length:=hl;have fin:∀{j:Nat×List Int},cQ b (a,st) j 0 0→(∀i,i<b.length→gI (Ct (a,st) j.2).1 i=gI b i)→Ct (a,st) (J5 b j at_).2=(b,at_):=fun {j} hj hall=>by
  obtain⟨h1,_⟩:=hj.to_ hb hr (k:=at_) hat;obtain⟨k1,k2⟩:=hj.to_ hb hr (k:=at_) hat;have e:Ct (a,st) (J5 b j at_).2=Ct ((Ct (a,st) j.2).1,j.1) (G9 b j.1 at_):=by
   show Ct (a,st) (j.2++G9 b j.1 at_)=_
   rw[Rk,←P9 _ hj.1]
  obtain⟨q1,q2⟩:=aL hb (x:=j.1) (y:=at_) (cs:=(Ct (a,st) j.2).1) (by rw[hj.2.1.1,hr]) hj.2.2 hat
  rw[←e]at q1 q2;have:(Ct (a,st) (J5 b j at_).2).1=b:=bQ (by rw[q2.1];exact hj.2.1.1.trans hr) (fun i hi=>q2.2 i hi (.inl (hall i hi)))
  rw[P9 _ q1,this]
 unfold Eh;simp only;split
 ·rename_i hxy
  have hne:a≠b:=by
   rintro rfl;obtain⟨g1,g2,g3,g4⟩:=Rt a a a.length (a.length-0) 0;exact g4 (by
    have:Ew a a 0 a.length=Wl a a a.length (a.length-0) 0:=rfl;omega) rfl
  have hlast:=mB a b (Aw b.length) hxy;generalize Ew a b 0 b.length=x at*;generalize Gu a b 0 b.length=y at*
  -- the plain way
  have O:=S0.over hb hr (u:=x) (v:=y) (by omega) d3
  have O2:cQ b (a,st) (Dg b (st,[]) x y) 0 0:=O.1;have A1:Ct (a,st) (J5 b (Dg b (st,[]) x y) at_).2=(b,at_):=fin O2 (fun i hi=>by
   rcases Ay i x with h1|h1
   ·exact O.2.2.1.2 i hi (.inl (d4 i (Aw _) h1))
   ·rcases Ay i y with h2|h2
    ·exact O.2.2.1.2 i hi (.inr ⟨h1,h2⟩)
    ·exact O.2.2.1.2 i hi (.inl (d5 i h2 hi)))
  have L1:(J5 b (Dg b (st,[]) x y) at_).2.length=Kk st x+(y-x)+Kk y at_:=by
   show((([]++G9 b st x)++(b.drop x).take (y-x))++G9 b y at_).length=_
   rw[Ba,Ba,Ba,Lm hst (by omega),Lm d3 hat,Cj,Ch,List.length_nil]
   omega
  split
  ·rename_i htl
   obtain⟨t1,t2,t3,t4,t5⟩:=L4 a b f1;obtain⟨m1,m2,m3,m4,m5⟩:=L4 a b (Aw (F6 b b.length));have m0:¬Ew a b 0 (F6 b b.length)<Gu a b 0 (F6 b b.length)→∀i,i<F6 b b.length→gI a i=gI b i:=fun h i hi=>by
    rcases Ay i (Ew a b 0 (F6 b b.length))with h1|h1
    ·exact m4 i (Aw _) h1
    ·exact m5 i (by omega) hi
   generalize hfull:F6 b b.length=full at*;generalize Ew a b full b.length=fi at*;generalize Gu a b full b.length=fh at*;generalize Ew a b 0 full=lo at*;generalize Gu a b 0 full=hi at*;have hbl:∀p,full≤p→∀i,p≤i→i<b.length→gI b i=32:=fun p hp i h1 h2=>f2 i (by omega) h2
   have Q:∀p,full≤p→p<full+(fi+1-full)→∀w∈M5 b st at_ p lo hi,Ct (a,st) w=(b,at_)∧w≠[]:=fun p hp hp2 w hw=>by
    have hpn:p≤b.length:=by omega
    unfold M5 at hw;split at hw
    ·rename_i hlh
     simp only[List.mem_cons,List.not_mem_nil,or_false]at hw;rcases hw with rfl|rfl
     ·have P1:=S0.over hb hr (u:=lo) (v:=hi) (by omega) (by omega)
      have P2:=P1.2.erase hb hr (k:=p) hpn (hbl p hp);refine⟨fin (P1.1.erase hb hr (k:=p) hpn (hbl p hp)).1 (fun i hi'=>?_),fun e=>?_⟩
      ·have N0:=trivial;exact K43
      ·have:=congrArg Ll e
       unfold iX J5 Df at this;simp at this
     ·have P1:=S0.erase hb hr (k:=p) hpn (hbl p hp)
      have P2:=P1.1.over hb hr (u:=lo) (v:=hi) (by omega) (by omega)
      have P3:=P1.2.over hb hr (u:=lo) (v:=hi) (by omega) (by omega)
      refine⟨fin P2.1 (fun i hi'=>?_),fun e=>?_⟩
      ·have N1:=trivial;exact K43
      ·have:=congrArg Ll e
       unfold tO J5 Dg J5 Df at this;simp at this
    ·rename_i hlh
     simp only[List.mem_cons,List.not_mem_nil,or_false]at hw;subst hw;have P1:=S0.erase hb hr (k:=p) hpn (hbl p hp);refine⟨fin P1.1 (fun i hi'=>?_),fun e=>?_⟩
     ·rcases Ay i p with h1|h1
      ·rcases Ay i full with h4|h4
       ·exact P1.1.2.1.2 i hi' (.inl (m0 hlh i h4))
       ·exact P1.1.2.1.2 i hi' (.inl (t4 i h4 (by omega)))
      ·exact P1.2.2.1.2 i hi' (.inr ⟨h1,hi'⟩)
     ·have:=congrArg Ll e
      unfold cS J5 Df at this;simp at this
   have BB:Ct (a,st) (Nd b st at_ lo hi (fi+1-full) full (J5 b (Dg b (st,[]) x y) at_).2)=(b,at_)∧Nd b st at_ lo hi (fi+1-full) full (J5 b (Dg b (st,[]) x y) at_).2≠[]:=
    Yf (Q:=fun w=>Ct (a,st) w=(b,at_)∧w≠[]) _ _ _ ⟨A1,fun e=>by
     have:=congrArg Ll e;rw[L1]at this;simp at this;omega⟩ Q
   refine⟨BB.1,?_,⟨fun h=>absurd h BB.2,fun h=>absurd h.1 hne⟩⟩
   obtain⟨f,hf⟩:∃f,fi+1-full=f+1:=⟨fi-full,by omega⟩
   rw[hf];have U0:(cS b st at_ full).length=Kk st full+1+Kk full at_:=by
    show((([]++G9 b st full)++[11])++G9 b full at_).length=_
    rw[Ba,Ba,Ba,Lm hst f1,Lm f1 hat];simp
   by_cases hlh:lo<hi
   ·have hmem:iX b st at_ full lo hi∈M5 b st at_ full lo hi:=by unfold M5;rw[if_pos hlh];simp
    refine Ar (Ts f full _ hmem) ?_
    have:(iX b st at_ full lo hi).length=Kk st lo+(hi-lo)+Kk hi full+1+Kk full at_:=by
     show((((([]++G9 b st lo)++(b.drop lo).take (hi-lo))++G9 b hi full)++[11])++G9 b full at_).length=_
     simp only[Ba,Cj,Ch,List.length_nil,List.length_cons];rw[Lm hst (by omega),Lm (by omega) (by omega),Lm (by omega) hat]
     omega
    rw[this];have q1:Kk st lo≤1+lo:=by unfold Kk;split<;>omega
    have q2:Kk hi full=full-hi:=by unfold Kk;rw[if_pos m3]
    omega
   ·have hmem:cS b st at_ full∈M5 b st at_ full lo hi:=by unfold M5;rw[if_neg hlh];simp
    refine Ar (Ts f full _ hmem) ?_
    rw[U0];have q1:Kk st full≤1+full:=by unfold Kk;split<;>omega
    omega
  ·rename_i htl
   refine⟨A1,?_,⟨fun h=>?_,fun h=>absurd h.1 hne⟩⟩
   ·rw[L1]
    obtain⟨t1,t2,t3,t4,t5⟩:=L4 a b f1;have hyf:y≤F6 b b.length:=by
     rcases Ay (F6 b b.length) y with h|h
     ·exact absurd (by
       rcases Ay (y-1) (Ew a b (F6 b b.length) b.length)with h5|h5
       ·exact t4 _ (by omega) h5
       ·exact t5 _ (by omega) (by omega)) hlast
     ·exact h
    have q1:Kk st x≤1+x:=by unfold Kk;split<;>omega
    have q2:Kk y at_≤(F6 b b.length-y)+Kk (F6 b b.length) at_:=by
     unfold Kk;split<;>split<;>omega
    omega
   ·have:=congrArg Ll h
    rw[L1]at this;simp at this;omega
 ·rename_i hxy
  have hab:∀i,i<b.length→gI a i=gI b i:=fun i hi=>by
   rcases Ay i (Ew a b 0 b.length)with h1|h1
   ·exact d4 i (Aw _) h1
   ·exact d5 i (by omega) hi
  have e:=bQ hl hab;refine⟨fin S0 (fun i hi=>hab i hi),?_,?_⟩
  ·show([]++G9 b st at_).length≤_
   rw[List.nil_append,Lm hst hat];unfold Kk;split<;>split<;>omega
  ·show []++G9 b st at_=[]↔_
   rw[List.nil_append,tX hst hat];exact⟨fun h=>⟨e,h⟩,fun h=>h.2⟩
end
