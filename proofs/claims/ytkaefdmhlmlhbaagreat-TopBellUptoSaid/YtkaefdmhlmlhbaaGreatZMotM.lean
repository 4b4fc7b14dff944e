/-
  Part of the proof: ZMotM.
-/
import Derived.Test.YtkaefdmhlmlhbaaGreatZRopeM
set_option maxRecDepth 100000
set_option maxHeartbeats 16000000
set_option linter.unusedVariables false
set_option linter.unusedSimpArgs false
namespace Go.Proofs.YtkaefdmhlmlhbaaGreat
open Go.RowKit
open _root_.Nat renaming le_refl→Aj,le_trans→Aq,lt_or_ge→Av,zero_le→Au
open _root_.List renaming getElem?_cons_succ→Ag,getElem?_cons_zero→Af,getElem?_eq_getElem→Bw,getElem?_toArray→Ah,length_append→Bg,length_drop→Cy,length_take→Cn,nil_append→Hq,replicate→At
open Value renaming int→Ar,slice→Ak
def Hv (l:List Int)(c:Int):Nat→Nat→Nat→Option Nat
 |0,_,_=>none
 |f+1,i,g=>if gI l i=c then(if g=1 then some i else Hv l c f (i+1) (g-1))else Hv l c f (i+1) g
def Jo (l:List Int)(c:Int):Nat→Nat→Option Nat
 |0,_=>none
 |m+1,g=>if gI l m=c then(if g=1 then some m else Jo l c m (g-1))else Jo l c m g
def Pn (s:Nat→Nat):Nat→Nat→Nat
 |0,k=>k
 |g+1,k=>s (Pn s g k)
def Fr (l:List Int):Nat:=if Ej l true 0 0<l.length then Ej l true 0 0 else l.length-1
def Ed (l:List Int)(k:Nat)(key:Int)(g:Nat)(op:Bool):Option (Nat×Bool):=
 if key=104 then(if k=0 then none else some (k-g,false))
 else if key=108 then(if(if op=true then l.length else l.length-1)≤k then none else some (min (if op=true then l.length else l.length-1) (k+g),false))
 else if key=48 then some (0,false)
 else if key=94 then some (Fr l,false)
 else if key=98 then(if k=0 then none else some (Pn (G0 l · false) g k,false))
 else if key=66 then(if k=0 then none else some (Pn (G0 l · true) g k,false))
 else if l.length=0 then none
 else if key=36 then some (l.length-1,true)
 else if key=124 then some (min g l.length-1,false)
 else if key=119 then(if op=true then some (Pn (Fu l · false) g k,false)else if min (Pn (Fu l · false) g k) (l.length-1)=k then none else some (min (Pn (Fu l · false) g k) (l.length-1),false))
 else if key=87 then(if op=true then some (Pn (Fu l · true) g k,false)else if min (Pn (Fu l · true) g k) (l.length-1)=k then none else some (min (Pn (Fu l · true) g k) (l.length-1),false))
 else if key=101 then(if op=false∧Pn (Cq l · false) g k=k then none else some (Pn (Cq l · false) g k,true))
 else if key=69 then(if op=false∧Pn (Cq l · true) g k=k then none else some (Pn (Cq l · true) g k,true))
 else none
def C9 (l:List Int)(k:Nat)(key:Int)(g:Nat)(op:Bool)(o:Option (Nat×Bool)):Prop:=
 if key=37 then(∃i m,Ts l k i m∧o=some (m,true))∨(noP l k∧o=none)else o=Ed l k key g op
def Y4 (l:List Int)(k:Nat)(key arg:Int)(g:Nat):Option (Nat×Bool):=
 if key=102 then(Hv l arg (l.length-(k+1)) (k+1) g).map (·,true)
 else if key=116 then(Hv l arg (l.length-(k+1)) (k+1) g).map (· - 1,true)
 else if key=70 then(Jo l arg k g).map (·,false)
 else(Jo l arg k g).map (· + 1,false)
def Jc (key:Int):Bool:=decide (key=102∨key=116∨key=70∨key=84)
def Kc (key:Int):Bool:=decide (key=104∨key=108∨key=48∨key=94∨key=36∨key=124∨key=119∨key=87∨key=98∨key=66∨key=101∨key=69∨key=37)
def Vr (l:List Int)(k:Nat)(key arg:Int)(g:Nat)(op:Bool)(o:Option (Nat×Bool)):Prop:=
 if Jc key=true then o=Y4 l k key arg g else C9 l k key g op o
theorem Qx {l:List Int}{c:Int}:∀{f i g j:Nat},Hv l c f i g=some j→i≤j∧j<i+f
 |0,_,_,_,h=>by simp[Hv]at h
 |f+1,i,g,j,h=>by
  unfold Hv at h;split at h
  ·split at h
   ·simp at h;omega
   ·have:=Qx h;omega
  ·have:=Qx h;omega
theorem Qy {l:List Int}{c:Int}:∀{m g j:Nat},Jo l c m g=some j→j<m
 |0,_,_,h=>by simp[Jo]at h
 |m+1,g,j,h=>by
  unfold Jo at h;split at h
  ·split at h
   ·simp at h;omega
   ·have:=Qy h;omega
  ·have:=Qy h;omega
theorem M7 {s:Nat→Nat}{n:Nat}(hs:∀k,k≤n→s k≤n):∀g {k:Nat},k≤n→Pn s g k≤n
 |0,k,h=>h
 |g+1,k,h=>hs _ (M7 hs g h)
theorem J1q {s:Nat→Nat}{n:Nat}(hs:∀k,k≤n→s k<n):∀g {k:Nat},k<n→Pn s g k<n
 |0,k,h=>h
 |g+1,k,h=>hs _ (Nat.le_of_lt (J1q hs g h))
theorem Qv {l:List Int}{k:Nat}{big:Bool}(hk:k≤l.length):Fu l k big≤l.length:=(J0x (big:=big) hk).2.1
theorem J5t {l:List Int}{k:Nat}{big:Bool}(hk:k≤l.length)(h0:0<l.length):Cq l k big<l.length:=by
 rcases J5s (big:=big) hk with h|h|h<;>omega
theorem J5u {l:List Int}{k:Nat}{big:Bool}(hk:k≤l.length):Cq l k big≤l.length:=by
 rcases J5s (big:=big) hk with h|h|h<;>omega
theorem J8q (l:List Int):Fr l≤l.length-1:=by unfold Fr;split<;>omega
theorem Xl {l:List Int}{big:Bool}:∀k,k≤l.length→G0 l k big≤l.length:=fun k hk=>Aq (Lw hk) hk
theorem Q0r {l:List Int}{k:Nat}{key arg:Int}{g:Nat}{op:Bool}{o:Option (Nat×Bool)}(hk:k≤l.length-1)(hg:1≤g)(h:Vr l k key arg g op o){a:Nat}{i:Bool}(ho:o=some (a,i)):
 a≤l.length∧(op=false→a≤l.length-1)∧(i=true→a<l.length):=by
 have hkl:k≤l.length:=by omega
 subst ho;unfold Vr at h;split at h
 ·unfold Y4 at h
  split at h
  ·exact I56
  split at h
  ·exact I56
  split at h
  ·exact I52
  ·exact I52
 ·unfold C9 at h
  split at h
  ·rcases h with⟨i',m,hf,he⟩|⟨_,he⟩
   ·injection he with he
    injection he with he1 he2;subst he1;subst he2;have h1:=hf.2.2.2.2.2;simp;omega
   ·cases he
  ·have e1:=M7 (fun k hk=>Qv (l:=l) (big:=false) hk) g hkl
   have e2:=M7 (fun k hk=>Qv (l:=l) (big:=true) hk) g hkl
   have e3:=M7 (Xl (l:=l) (big:=false)) g hkl;have e4:=M7 (Xl (l:=l) (big:=true)) g hkl;have e5:=M7 (fun k hk=>Aq (Lw (l:=l) (big:=false) (Aq hk (Nat.sub_le _ _))) hk) g hk
   have e6:=M7 (fun k hk=>Aq (Lw (l:=l) (big:=true) (Aq hk (Nat.sub_le _ _))) hk) g hk
   have e7:=J8q l;have e8:0<l.length→Pn (Cq l · false) g k<l.length:=fun h0=>J1q (fun k hk=>J5t hk h0) g (by omega)
   have e9:0<l.length→Pn (Cq l · true) g k<l.length:=fun h0=>J1q (fun k hk=>J5t hk h0) g (by omega)
   unfold Ed at h;generalize Pn (Cq l · false) g k=x1 at*;generalize Pn (Cq l · true) g k=x2 at*;generalize Pn (Fu l · false) g k=x3 at*;generalize Pn (Fu l · true) g k=x4 at*;generalize Pn (G0 l · false) g k=x5 at*;generalize Pn (G0 l · true) g k=x6 at*;generalize Fr l=x7 at*;by_cases k1:key=104
   ·rw[if_pos k1]at h;by_cases j:k=0
    ·rw[if_pos j]at h;cases h
    ·rw[if_neg j]at h;cases h;simp;omega
   rw[if_neg k1]at h;by_cases k2:key=108
   ·rw[if_pos k2]at h
    cases op
    ·simp only[Bool.false_eq_true,if_false]at h
     by_cases j:l.length-1≤k
     ·rw[if_pos j]at h;cases h
     ·rw[if_neg j]at h;cases h;simp;omega
    ·simp only[if_true]at h
     by_cases j:l.length≤k
     ·rw[if_pos j]at h;cases h
     ·rw[if_neg j]at h;cases h;simp;omega
   rw[if_neg k2]at h;by_cases k3:key=48
   ·rw[if_pos k3]at h;cases h;simp
   rw[if_neg k3]at h;by_cases k4:key=94
   ·rw[if_pos k4]at h;cases h;simp;omega
   rw[if_neg k4]at h;by_cases k5:key=98
   ·rw[if_pos k5]at h;by_cases j:k=0
    ·rw[if_pos j]at h;cases h
    ·rw[if_neg j]at h;cases h;simp;exact⟨e3,fun _=>e5⟩
   rw[if_neg k5]at h;by_cases k6:key=66
   ·rw[if_pos k6]at h;by_cases j:k=0
    ·rw[if_pos j]at h;cases h
    ·rw[if_neg j]at h;cases h;simp;exact⟨e4,fun _=>e6⟩
   rw[if_neg k6]at h;by_cases k7:l.length=0
   ·rw[if_pos k7]at h;cases h
   rw[if_neg k7]at h;have e8':=e8 (by omega)
   have e9':=e9 (by omega)
   by_cases k8:key=36
   ·rw[if_pos k8]at h;cases h;simp;omega
   rw[if_neg k8]at h;by_cases k9:key=124
   ·rw[if_pos k9]at h;cases h;simp;omega
   rw[if_neg k9]at h;by_cases k10:key=119
   ·rw[if_pos k10]at h
    cases op
    ·simp only[Bool.false_eq_true,if_false]at h
     by_cases j:min x3 (l.length-1)=k
     ·rw[if_pos j]at h;cases h
     ·rw[if_neg j]at h;cases h;simp;omega
    ·simp only[if_true]at h
     cases h;simp;exact e1
   rw[if_neg k10]at h;by_cases k11:key=87
   ·rw[if_pos k11]at h
    cases op
    ·simp only[Bool.false_eq_true,if_false]at h
     by_cases j:min x4 (l.length-1)=k
     ·rw[if_pos j]at h;cases h
     ·rw[if_neg j]at h;cases h;simp;omega
    ·simp only[if_true]at h
     cases h;simp;exact e2
   rw[if_neg k11]at h;by_cases k12:key=101
   ·rw[if_pos k12]at h
    by_cases j:op=false∧x1=k
    ·rw[if_pos j]at h;cases h
    ·rw[if_neg j]at h;cases h;simp;omega
   rw[if_neg k12]at h;by_cases k13:key=69
   ·rw[if_pos k13]at h
    by_cases j:op=false∧x2=k
    ·rw[if_pos j]at h;cases h
    ·rw[if_neg j]at h;cases h;simp;omega
   rw[if_neg k13]at h;cases h
theorem Ti {l:List Int}{k:Nat}{key arg:Int}{g:Nat}{op:Bool}{o o':Option (Nat×Bool)}(h:Vr l k key arg g op o)(h':Vr l k key arg g op o'):o=o':=by
 unfold Vr at h h';split at h
 ·rename_i hf
  rw[if_pos hf]at h';rw[h,h']
 ·rename_i hf
  rw[if_neg hf]at h';unfold C9 at h h';split at h
  ·rename_i hk
   rw[if_pos hk]at h';rcases h with⟨i,m,h1,rfl⟩|⟨h1,rfl⟩<;>rcases h' with⟨i',m',h2,rfl⟩|⟨h2,rfl⟩
   ·rw[(J3v h1 h2).2]
   ·exact absurd h2 (Wz h1)
   ·exact absurd h1 (Wz h2)
   ·rfl
  ·rename_i hk
   rw[if_neg hk]at h';rw[h,h']
def Nc (c:Int):Prop:=32≤c∧c≠127
theorem Q8c {c:Int}{w:World}(h:Nc c):Calls Tryz.prog 141 #[.int .i64 c] w fun e w'=>e=.returned (.bool false)∧w'=w:=by
 obtain⟨h1,h2⟩:=h;have h3:(c==127)=false:=by simpa using h2
 have h4:decide (c<32)=false:=by simpa using h1
 clear h2;go_enter Tryz.func141,Tryz.ntmps141
 go_wp2_with fail
 go_ret
 exact⟨rfl,rfl⟩
theorem Q7f {A:Option Addr}{n c:Nat}{l:List Int}{w:World}(hl:Bj w A n c l)(hg:∀k,k<n→Nc (gI l k)):
 Calls Tryz.prog 70 #[.slice A n c,.func (.func 141) #[] #[]] w fun e w'=>e=.returned (.int .i64 (-1))∧w'=w:=by
 have h1:=hl.ncap;have h2:=hl.nmax;unfold maxLen at h2;have HG:=A6 hg;clear hg;go_enter Tryz.func70,Tryz.ntmps70
 go_wp2_with fail
 go_loopw [8] (fun i wr=>∃k:Nat,k≤n∧i=.int .i64 k∧wr=w) (fun i _=>n-(intOf i).toNat)
 case atStart=>exact⟨0,by omega,rfl,rfl⟩
 case round=>
  obtain⟨k,hk,rfl,rfl⟩:=hrel;by_cases hlt:k<n
  ·obtain⟨a1,rfl,hc1⟩:=hl.at_ hlt
   have c1:=hc1 k hlt;clear hc1;go_wp2_with fail
   refine(Q8c (HG.out k hlt)).mono ?_
   rintro e w1 ⟨rfl,rfl⟩;go_wp2_with fail
   go_roundw
   case rel=>exact⟨k+1,by omega,by go_num,trivial⟩
   case measure=>simp[intOf];omega
  ·obtain rfl:k=n:=by omega
   go_wp2_with fail
   go_ret
   exact⟨rfl,rfl⟩
theorem Q4j {A:Option Addr}{n c:Nat}{l:List Int}{w:World}(hl:Bj w A n c l)(hg:∀k,k<n→Nc (gI l k)):
 Calls Tryz.prog 45 #[.slice A n c,.func (.func 141) #[] #[]] w fun e w'=>e=.returned (.bool false)∧w'=w:=by
 have h1:=hl.ncap;have h2:=hl.nmax;unfold maxLen at h2;have HG:=A6 hg;clear hg;go_enter Tryz.func45,Tryz.ntmps45
 go_wp2_with fail
 refine(Q7f hl HG.out).mono ?_
 rintro e w1 ⟨rfl,rfl⟩;go_wp2_with fail
 go_ret
 exact⟨rfl,rfl⟩
theorem Pm {A:Option Addr}{n c:Nat}{l:List Int}{at_:Int}{w:World}(hl:Bj w A n c l)(hg:∀k,k<n→Nc (gI l k))(h1:2≤n)(h2:n≤120)(h3:0≤at_)(h4:at_≤n):
 Calls Tryz.prog 101 #[.agg #[.slice A n c,.int .i64 at_]] w fun e w'=>e=.returned (.int .i64 0)∧Am w w':=by
 have hnc:=hl.ncap;have hcm:=hl.nmax;unfold maxLen at hcm;have HG:=A6 hg;clear hg;go_enter Tryz.func101,Tryz.ntmps101
 go_wp2_with fail
 refine(Q4j (hl.ext (Am.alloc _ _)) HG.out).mono ?_
 rintro e w1 ⟨rfl,rfl⟩;go_wp2_with fail
 go_ret
 exact⟨rfl,Am.alloc _ _⟩
theorem Ap.keepCell {w:World}{g t:Nat}{cs:Array Value}(h:Ap w g t cs){p:Addr}(hp:p.block≠g)(u:Value):Ap (w.setCell p u) g t cs:=by
 exact I95
def Vj (n at_ off width:Int):Prop:=n<0∨n>200∨at_<0∨at_>n∨off<0∨off>200∨width<2∨width>120
instance (n at_ off width:Int):Decidable (Vj n at_ off width):=by unfold Vj;exact inferInstance
def Nv (at_ off width:Int):Int:=if at_<off then at_ else if at_≥off+width then at_-width+1 else off
def Qa (c:Int):Int:=if c<32∨c=127∨c=65533 then 63 else c
theorem J4f (c:Int):32≤Qa c∧Qa c≠127:=by unfold Qa;split<;>omega
theorem Q5u {a b c:Int}(h:a=b):Ending.returned (.tuple #[.int .i64 a,.int .i64 c])=.returned (.tuple #[.int .i64 b,.int .i64 c]):=by rw[h]
theorem Sr {n at_ off width:Int}{w:World}(h:¬Vj n at_ off width):
 Calls Tryz.prog 67 #[.int .i64 n,.int .i64 at_,.int .i64 off,.int .i64 width] w fun e w'=>e=.returned (.tuple #[.int .i64 (Nv at_ off width),.int .i64 0])∧w'=w:=by
 unfold Vj at h;have h1:0≤n:=by omega
 have h2:n≤200:=by omega
 have h3:0≤at_:=by omega
 have h4:at_≤n:=by omega
 have h5:0≤off:=by omega
 have h6:off≤200:=by omega
 have h7:2≤width:=by omega
 have h8:width≤120:=by omega
 clear h;go_enter Tryz.func67,Tryz.ntmps67
 go_wp2_with fail
 all_goals (go_ret2;refine⟨Q5u ?_,rfl⟩;unfold Nv;(repeat' split)<;>omega)
theorem Q8f (c:Int)(w:World):Calls Tryz.prog 100 #[.int .i64 c] w fun e w'=>e=.returned (.int .i64 (Qa c))∧w'=w:=by
 have HF:Hid (∀v,((c<32∨c=127∨c=65533)→v=63)→(¬(c<32∨c=127∨c=65533)→v=c)→v=Qa c):=A6 (fun v h1 h2=>by
  unfold Qa;split
  ·exact h1 ‹_›
  ·exact h2 ‹_›)
 rcases Decidable.em (c=127)with h|h
 ·subst h
  exact I77
 rcases Decidable.em (c=65533)with g|g
 ·subst g
  exact I77
 have b1:(c==127)=false:=by simpa using h
 have b2:(c==65533)=false:=by simpa using g
 have H1:=A6 h;have H2:=A6 g;clear h g;go_enter Tryz.func100,Tryz.ntmps100
 go_wp2_with fail
 all_goals (go_ret;have h1:=H1.out;have h2:=H2.out;refine⟨J0 (HF.out _ ?_ ?_),rfl⟩<;>intro hh<;>first|rfl|omega)
theorem Q6n {n at_ off width:Int}{w:World}(h:¬Vj n at_ off width)(hk:Nv at_ off width=off):
 Calls Tryz.prog 99 #[.int .i64 n,.int .i64 at_,.int .i64 off,.int .i64 width] w fun e w'=>e=.returned (.int .i64 0)∧w'=w:=by
 go_enter Tryz.func99,Tryz.ntmps99
 go_wp2_with fail
 refine(Sr h).mono ?_
 rintro e w1 ⟨rfl,rfl⟩;rw[hk];clear hk h;go_wp2_with fail
 go_ret
 exact⟨rfl,rfl⟩
def M8 (l:List Int)(k:Int)(i:Nat):Int:=if k+i<l.length then Qa (gI l (k+i).toNat)else 32
def Hs (l:List Int)(k:Int)(n:Nat):List Int:=(List.range n).map (M8 l k)
theorem J7i (l:List Int)(k:Int)(n:Nat):Hs l k (n+1)=Hs l k n++[M8 l k n]:=by unfold Hs;rw[List.range_succ,List.map_append];rfl
theorem Zj (l:List Int)(k:Int)(n:Nat):(Hs l k n).length=n:=by unfold Hs;simp
theorem Q5s (l:List Int)(k:Int){n i:Nat}(h:i<n):gI (Hs l k n) i=M8 l k i:=by unfold Hs gI;simp[h]
theorem J1c (l:List Int)(k:Int)(i:Nat):Nc (M8 l k i):=by
 unfold M8 Nc;split
 ·exact J4f _
 ·omega
theorem Z0b {A:Option Addr}{n c:Nat}{l:List Int}{at_ k:Int}{width:Nat}{w:World}(hl:Bj w A n c l)(h:¬Vj n at_ k width)(hk:Nv at_ k width=k):
 Calls Tryz.prog 68 #[.slice A n c,.int .i64 at_,.int .i64 k,.int .i64 width] w fun e w'=>∃B d,e=.returned (.tuple #[.agg #[.slice B width d,.int .i64 (at_-k)],.int .i64 0])∧Ay w' w.heap.size B width d (Hs l k width)∧Am w w':=by
 obtain⟨i0,hi,hz0,hz1,hz2⟩:=info_parts C8;have HB:=A6 h;have HK:=A6 hk;have hlen:=A6 hl.len;unfold Vj at h;have h1:(n:Int)≤200:=by omega
 have h2:0≤at_:=by omega
 have h3:at_≤n:=by omega
 have h4:0≤k:=by omega
 have h5:k≤200:=by omega
 have h6:2≤width:=by omega
 have h7:width≤120:=by omega
 clear h hk;obtain⟨kn,rfl⟩:=Int.eq_ofNat_of_zero_le h4;have hnc:=hl.ncap;have hcm:=hl.nmax;unfold maxLen at hcm;go_enter Tryz.func68,Tryz.ntmps68
 go_wp2_with fail
 refine(Q6n HB.out HK.out).mono ?_
 rintro e w1 ⟨rfl,rfl⟩;go_wp2_with fail
 go_loopw [33] (fun i wr=>∃(j:Nat) (B:Option Addr) (d:Nat),j≤width∧i=.int .i64 j∧Ap wr w.heap.size 41 #[.slice none 0 0,.int .i64 0]∧Ap wr (w.heap.size+1) 41 #[.slice B j d,.int .i64 (at_-kn)]∧Ay wr (w.heap.size+2) B j d (Hs l kn j)∧Am w wr) (fun i _=>width-(intOf i).toNat)
 case atStart=>
  refine⟨0,none,0,by omega,rfl,(Ap.new _ _ _).ext (Am.alloc _ _),?_,Ay.nil _ _,(Am.alloc _ _).to_alloc _⟩
  have:=Ap.new (w.alloc (Obj.cells #[Ak none 0 0,Ar IntKind.i64 0] 41)) 41 #[Ak none 0 0,Ar IntKind.i64 (at_-kn)]
  simpa using this
 case round=>
  obtain⟨j,B,d,hj,rfl,hb0,hb1,hown,he⟩:=hrel;have f1':=hb1.frozen 0;have c1:=hb1.cell 0;have hbs:=hb1.lt;simp only[Ah,Af,Ag]at c1;by_cases hlt:j<width
  ·by_cases hin:kn+j<n
   ·have N0:=trivial;exact K37
   ·have N1:=trivial;exact K37
  ·obtain rfl:j=width:=by omega
   have c2:=hb1.cell 1;have f0:=hb0.frozen 0;have f00:=hb0.frozen 1;have c4:=hb0.cell 0;have c5:=hb0.cell 1;simp only[Ah,Af,Ag]at c2 c4 c5;go_wp2_with fail
   have hbf:Ap ((wr.setCell ⟨w.heap.size,0,none⟩ (.slice B j d)).setCell ⟨w.heap.size,1,none⟩ (.int .i64 (at_-kn))) w.heap.size 41 #[.slice B j d,.int .i64 (at_-kn)]:=by
    simpa using(hb0.set_ 0 (.slice B j d)).set_ 1 (.int .i64 (at_-kn))
   have c6:=hbf.cell 0;have c7:=hbf.cell 1;simp only[Ah,Af,Ag]at c6 c7;clear c1 c2 c4 c5 f0 f00;refine bodyPost_ret (by simp[results,Tryz.results68,go_sem,c6,c7];try rfl) rfl ?_
   exact⟨B,d,rfl,B8.lower (B8.setCell (B8.setCell hown (by simp) _) (by simp) _) (by omega),(he.setCell (by simp) _).setCell (by simp) _⟩
def Sk (r:List Int×Nat)(c:Int):List Int×Nat:=
 if c=8 then(r.1,r.2-1)else if c=13 then(r.1,0)else if c=11 then(r.1.take r.2++List.replicate (r.1.length-r.2) 32,r.2)
 else if 32≤c∧c≠127∧r.2<r.1.length then(r.1.set r.2 c,r.2+1)else r
def Cp (r:List Int×Nat)(s:List Int):List Int×Nat:=s.foldl Sk r
theorem Z1j {l:List Int}{k j:Nat}{v:Int}(hk:k<l.length):gI (l.set k v) j=if j=k then v else gI l j:=by
 unfold gI;by_cases h:j=k
 ·subst h;rw[if_pos rfl,List.getElem?_set_self hk];rfl
 ·rw[if_neg h,List.getElem?_set_ne (fun e=>h e.symm)]
theorem Qr (r:List Int×Nat)(a b:List Int):Cp r (a++b)=Cp (Cp r a) b:=by unfold Cp;rw[List.foldl_append]
def Fv (b:List Int)(x y:Nat):List Int:=
 if x≤y then(b.drop x).take (y-x)else if x-y≤1+y then At (x-y) 8 else 13::b.take y
def Hr (b:List Int)(j:Nat×List Int)(k:Nat):Nat×List Int:=(k,j.2++Fv b j.1 k)
def Df (b:List Int)(j:Nat×List Int)(x y:Nat):Nat×List Int:=(y,(Hr b j x).2++(b.drop x).take (y-x))
def De (b:List Int)(j:Nat×List Int)(k:Nat):Nat×List Int:=(k,(Hr b j k).2++[11])
def Vf (a b:List Int)(to:Nat):Nat→Nat→Nat
 |0,k=>k
 |f+1,k=>if gI a k=gI b k then Vf a b to f (k+1)else k
def Vg (a b:List Int)(fr:Nat):Nat→Nat→Nat
 |0,k=>k
 |f+1,k=>if gI a (k-1)=gI b (k-1)then Vg a b fr f (k-1)else k
def El (a b:List Int)(x y:Nat):Nat:=Vf a b y (y-x) x
def Gj (a b:List Int)(x y:Nat):Nat:=Vg a b (El a b x y) (y-El a b x y) y
theorem R0 (a b:List Int)(to:Nat):∀(f k:Nat),k≤Vf a b to f k∧Vf a b to f k≤k+f∧(∀i,k≤i→i<Vf a b to f k→gI a i=gI b i)∧(Vf a b to f k<k+f→gI a (Vf a b to f k)≠gI b (Vf a b to f k))
 |0,k=>⟨Aj _,Aj _,fun i h1 h2=>by simp only[Vf]at h2;omega,fun h=>by simp[Vf]at h⟩
 |f+1,k=>by
  unfold Vf;split
  ·rename_i h
   obtain⟨h1,h2,h3,h4⟩:=R0 a b to f (k+1);refine⟨by omega,by omega,fun i hi hl=>?_,fun hl=>h4 (by omega)⟩
   rcases Nat.eq_or_lt_of_le hi with rfl|hlt
   ·exact h
   ·exact h3 i hlt hl
  ·exact I103
theorem Uh (a b:List Int)(fr:Nat):∀(f k:Nat),f≤k→Vg a b fr f k≤k∧k-f≤Vg a b fr f k∧(∀i,Vg a b fr f k≤i→i<k→gI a i=gI b i)∧(k-f<Vg a b fr f k→gI a (Vg a b fr f k-1)≠gI b (Vg a b fr f k-1))
 |0,k,_=>⟨Aj _,by simp[Vg],fun i h1 h2=>by simp only[Vg]at h1;omega,fun h=>by simp[Vg]at h⟩
 |f+1,k,hk=>by
  unfold Vg;split
  ·rename_i h
   obtain⟨h1,h2,h3,h4⟩:=Uh a b fr f (k-1) (by omega)
   refine⟨by omega,by omega,fun i hi hl=>?_,fun hl=>h4 (by omega)⟩
   rcases Av i (k-1)with hlt|hge
   ·exact h3 i hi hlt
   ·rw[show i=k-1 by omega];exact h
  ·exact I103
theorem Kp (a b:List Int){x y:Nat}(h:x≤y):x≤El a b x y∧El a b x y≤Gj a b x y∧Gj a b x y≤y∧(∀i,x≤i→i<El a b x y→gI a i=gI b i)∧(∀i,Gj a b x y≤i→i<y→gI a i=gI b i):=by
 obtain⟨h1,h2,h3,h4⟩:=R0 a b y (y-x) x;obtain⟨k1,k2,k3,_⟩:=Uh a b (El a b x y) (y-El a b x y) y (by omega)
 have e1:El a b x y=Vf a b y (y-x) x:=rfl;have e2:Gj a b x y=Vg a b (El a b x y) (y-El a b x y) y:=rfl;rw[←e1]at h1 h2 h3;rw[←e2]at k1 k2 k3;exact⟨h1,by omega,k1,h3,k3⟩
theorem J8w (a b:List Int){x y:Nat}(h:x≤y)(hlt:El a b x y<Gj a b x y):gI a (Gj a b x y-1)≠gI b (Gj a b x y-1):=by
 obtain⟨h1,h2,h3,h4⟩:=R0 a b y (y-x) x;have e1:El a b x y=Vf a b y (y-x) x:=rfl;exact(Uh a b (El a b x y) (y-El a b x y) y (by omega)).2.2.2 (by
  have e2:Gj a b x y=Vg a b (El a b x y) (y-El a b x y) y:=rfl;omega)
def Es (b:List Int):Nat→Nat
 |0=>0
 |n+1=>if gI b n=32 then Es b n else n+1
theorem Qw (b:List Int):∀n,Es b n≤n∧∀i,Es b n≤i→i<n→gI b i=32
 |0=>⟨Aj _,fun i _ h=>absurd h (by omega)⟩
 |n+1=>by
  unfold Es;split
  ·rename_i h
   obtain⟨h1,h2⟩:=Qw b n;refine⟨by omega,fun i hi hl=>?_⟩
   rcases Av i n with hlt|hge
   ·exact h2 i hi hlt
   ·rw[show i=n by omega];exact h
  ·exact⟨Aj _,fun i h1 h2=>by omega⟩
def J1h (b:List Int)(st at_ p:Nat):List Int:=(Hr b (De b (st,[]) p) at_).2
def J6c (b:List Int)(st at_ p lo hi:Nat):List Int:=(Hr b (De b (Df b (st,[]) lo hi) p) at_).2
def Q5g (b:List Int)(st at_ p lo hi:Nat):List Int:=(Hr b (Df b (De b (st,[]) p) lo hi) at_).2
def Li (b:List Int)(st at_ p lo hi:Nat):List (List Int):=if lo<hi then [J6c b st at_ p lo hi,Q5g b st at_ p lo hi]else [J1h b st at_ p]
def Hw (x w:List Int):List Int:=if w.length<x.length then w else x
def Ft (best:List Int)(ws:List (List Int)):List Int:=ws.foldl Hw best
def Mn (b:List Int)(st at_ lo hi:Nat):Nat→Nat→List Int→List Int
 |0,_,best=>best
 |f+1,p,best=>Mn b st at_ lo hi f (p+1) (Ft best (Li b st at_ p lo hi))
def Ec (a:List Int)(st:Nat)(b:List Int)(at_:Nat):List Int:=
 let n:=b.length
 let x:=El a b 0 n
 let y:=Gj a b 0 n
 if x<y then
  let best:=(Hr b (Df b (st,[]) x y) at_).2
  let full:=Es b n
  let fi:=El a b full n
  if fi<Gj a b full n then Mn b st at_ (El a b 0 full) (Gj a b 0 full) (fi+1-full) full best else best
 else(Hr b (st,[]) at_).2
theorem J9o (x w:List Int):Hw x w=x∨Hw x w=w:=by unfold Hw;split<;>simp
theorem J9p (x w:List Int):(Hw x w).length≤x.length∧(Hw x w).length≤w.length:=by unfold Hw;split<;>omega
theorem Vb {Q:List Int→Prop}:∀(ws:List (List Int)) (x:List Int),Q x→(∀w∈ws,Q w)→Q (Ft x ws)
 |[],x,h,_=>h
 |w::ws,x,h,h2=>Vb ws (Hw x w) (by rcases J9o x w with e|e<;>rw[e];exact h;exact h2 w (by simp)) (fun v hv=>h2 v (by simp[hv]))
theorem Se:∀(ws:List (List Int)) (x:List Int),(Ft x ws).length≤x.length∧∀w∈ws,(Ft x ws).length≤w.length
 |[],x=>⟨Aj _,fun w h=>by cases h⟩
 |v::ws,x=>by
  obtain⟨h1,h2⟩:=Se ws (Hw x v);have h3:=J9p x v;have e:Ft x (v::ws)=Ft (Hw x v) ws:=rfl;rw[e];refine⟨by omega,fun w hw=>?_⟩
  rcases List.mem_cons.1 hw with rfl|hw
  ·omega
  ·exact h2 w hw
theorem Xk {Q:List Int→Prop}{b:List Int}{st at_ lo hi:Nat}:∀(f p:Nat) (x:List Int),Q x→(∀q,p≤q→q<p+f→∀w∈Li b st at_ q lo hi,Q w)→Q (Mn b st at_ lo hi f p x)
 |0,p,x,h,_=>h
 |f+1,p,x,h,h2=>Xk f (p+1) _ (Vb _ _ h (h2 p (Aj _) (by omega))) (fun q h3 h4=>h2 q (by omega) (by omega))
theorem J0g {b:List Int}{st at_ lo hi:Nat}:∀(f p:Nat) (x:List Int),(Mn b st at_ lo hi f p x).length≤x.length
 |0,p,x=>Aj _
 |f+1,p,x=>Aq (J0g f (p+1) _) (Se _ _).1
theorem Sx {b:List Int}{st at_ lo hi:Nat}(f p:Nat)(x:List Int){w:List Int}(hw:w∈Li b st at_ p lo hi):(Mn b st at_ lo hi (f+1) p x).length≤w.length:=
 Aq (J0g f (p+1) _) ((Se _ _).2 w hw)
def Gu (b:List Int)(r r':List Int×Nat)(x y:Nat):Prop:=r'.1.length=r.1.length∧∀i,i<b.length→(gI r.1 i=gI b i∨x≤i∧i<y)→gI r'.1 i=gI b i
theorem Gu.refl (b:List Int)(r:List Int×Nat):Gu b r r 0 0:=⟨rfl,fun i _ h=>by rcases h with h|h;exact h;omega⟩
theorem Gu.less {b:List Int}{r r':List Int×Nat}{x y x' y':Nat}(h:Gu b r r' x y)(hh:∀i,x'≤i→i<y'→x≤i∧i<y):Gu b r r' x' y':=⟨h.1,fun i hi hl=>h.2 i hi (hl.imp id (fun k=>hh i k.1 k.2))⟩
def okB (b:List Int):Prop:=∀k,k<b.length→Nc (gI b k)
theorem Q3p {c:Int}(h:Nc c):32≤c∧c≠127:=h
theorem J6x {cs:List Int}{p:Nat}{c:Int}(h:Nc c)(hp:p<cs.length):Sk (cs,p) c=(cs.set p c,p+1):=by
 obtain⟨h1,h2⟩:=Q3p h;unfold Sk;rw[if_neg (by omega),if_neg (by omega),if_neg (by omega),if_pos ⟨h1,h2,hp⟩]
theorem Mc {b:List Int}(hb:okB b):∀(m x:Nat) (cs:List Int),cs.length=b.length→x+m≤b.length→
 (Cp (cs,x) ((b.drop x).take m)).2=x+m∧Gu b (cs,x) (Cp (cs,x) ((b.drop x).take m)) x (x+m)
 |0,x,cs,hc,hm=>by
  simp only[List.take_zero,Cp,List.foldl_nil];exact⟨rfl,(Gu.refl b _).less (fun i h1 h2=>by omega)⟩
 |m+1,x,cs,hc,hm=>by
  have hx:x<b.length:=by omega
  have e:(b.drop x).take (m+1)=gI b x::(b.drop (x+1)).take m:=by
   rw[List.drop_eq_getElem_cons hx,List.take_succ_cons];simp[gI,hx]
  have e2:Cp (cs,x) ((b.drop x).take (m+1))=Cp (cs.set x (gI b x),x+1) ((b.drop (x+1)).take m):=by
   rw[e]
   show Cp (Sk (cs,x) (gI b x)) _=_
   rw[J6x (hb x hx) (by omega)]
  obtain⟨h1,h2⟩:=Mc hb m (x+1) (cs.set x (gI b x)) (by simpa using hc) (by omega)
  rw[e2];refine⟨by omega,h2.1.trans (by simp),fun i hi hl=>?_⟩
  apply h2.2 i hi
  simp only;rw[Z1j (by omega)]
  by_cases hix:i=x
  ·left;rw[if_pos hix,hix]
  ·rw[if_neg hix]
   rcases hl with hl|hl
   ·exact .inl hl
   ·exact .inr (by omega)
theorem Wg (cs:List Int):∀(m x:Nat),m≤x→Cp (cs,x) (At m 8)=(cs,x-m)
 |0,x,_=>rfl
 |m+1,x,h=>by
  rw[List.replicate_succ]
  show Cp (Sk (cs,x) 8) _=_
  have:Sk (cs,x) 8=(cs,x-1):=rfl;rw[this,Wg cs m (x-1) (by omega),show x-1-m=x-(m+1)by omega]
theorem Zg {b:List Int}(hb:okB b){x y:Nat}{cs:List Int}(hc:cs.length=b.length)(hx:x≤b.length)(hy:y≤b.length):
 (Cp (cs,x) (Fv b x y)).2=y∧Gu b (cs,x) (Cp (cs,x) (Fv b x y)) x y:=by
 unfold Fv;split
 ·rename_i h
  have:=Mc hb (y-x) x cs hc (by omega)
  rw[show x+(y-x)=y by omega]at this
  exact this
 ·rename_i h
  split
  ·rw[Wg cs _ _ (by omega)]
   exact⟨by simp only;omega,⟨rfl,fun i _ hl=>by rcases hl with hl|hl;exact hl;omega⟩⟩
  ·have e:Cp (cs,x) (13::b.take y)=Cp (cs,0) ((b.drop 0).take y):=rfl
   rw[e];have:=Mc hb y 0 cs hc (by omega)
   rw[Nat.zero_add]at this;refine⟨this.1,this.2.1,fun i hi hl=>this.2.2 i hi (hl.imp id (fun k=>by omega))⟩
def Led (b:List Int)(r:List Int×Nat)(j:Nat×List Int)(x y:Nat):Prop:=(Cp r j.2).2=j.1∧Gu b r (Cp r j.2) x y∧j.1≤b.length
theorem Led.start (b:List Int)(r:List Int×Nat)(h:r.2≤b.length):Led b r (r.2,[]) 0 0:=⟨rfl,Gu.refl b r,h⟩
theorem Nn (r:List Int×Nat){p:Nat}(h:r.2=p):r=(r.1,p):=by rw[←h]
theorem Led.to_ {b:List Int}(hb:okB b){r:List Int×Nat}(hr:r.1.length=b.length){j:Nat×List Int}{x y k:Nat}(h:Led b r j x y)(hk:k≤b.length):Led b r (Hr b j k) x y∧(j.1≤k→∀i,j.1≤i→i<k→gI (Cp r (Hr b j k).2).1 i=gI b i):=by
 obtain⟨h1,h2,h3⟩:=h;have e:Cp r (Hr b j k).2=Cp ((Cp r j.2).1,j.1) (Fv b j.1 k):=by
  show Cp r (j.2++Fv b j.1 k)=_
  rw[Qr,←Nn _ h1]
 obtain⟨k1,k2⟩:=Zg hb (x:=j.1) (y:=k) (cs:=(Cp r j.2).1) (by rw[h2.1,hr]) h3 hk
 rw[←e]at k1 k2;refine⟨⟨k1,⟨k2.1.trans h2.1,fun i hi hl=>k2.2 i hi (.inl (h2.2 i hi hl))⟩,hk⟩,fun _ i h4 h5=>k2.2 i (by omega) (.inr ⟨h4,h5⟩)⟩
theorem Led.over {b:List Int}(hb:okB b){r:List Int×Nat}(hr:r.1.length=b.length){j:Nat×List Int}{x y u v:Nat}(h:Led b r j x y)(huv:u≤v)(hv:v≤b.length):
 Led b r (Df b j u v) x y∧Led b r (Df b j u v) u v:=by
 obtain⟨⟨h1,h2,h3⟩,_⟩:=h.to_ hb hr (k:=u) (by omega)
 have e:Cp r (Df b j u v).2=Cp ((Cp r (Hr b j u).2).1,u) ((b.drop u).take (v-u)):=by
  show Cp r ((Hr b j u).2++(b.drop u).take (v-u))=_
  rw[Qr];rw[←Nn _ (show(Cp r (Hr b j u).2).2=u from h1)]
 obtain⟨k1,k2⟩:=Mc hb (v-u) u (Cp r (Hr b j u).2).1 (by rw[h2.1,hr]) (by omega)
 rw[←e,show u+(v-u)=v by omega]at k1 k2
 exact⟨⟨k1,⟨k2.1.trans h2.1,fun i hi hl=>k2.2 i hi (.inl (h2.2 i hi hl))⟩,hv⟩,⟨k1,⟨k2.1.trans h2.1,fun i hi hl=>by
  rcases hl with hl|hl
  ·exact k2.2 i hi (.inl (h2.2 i hi (.inl hl)))
  ·exact k2.2 i hi (.inr hl)⟩,hv⟩⟩
theorem Led.erase {b:List Int}(hb:okB b){r:List Int×Nat}(hr:r.1.length=b.length){j:Nat×List Int}{x y k:Nat}(h:Led b r j x y)(hk:k≤b.length)(hbl:∀i,k≤i→i<b.length→gI b i=32):
 Led b r (De b j k) x y∧Led b r (De b j k) k b.length:=by
 obtain⟨⟨h1,h2,h3⟩,_⟩:=h.to_ hb hr (k:=k) hk;have e:Cp r (De b j k).2=Sk (Cp r (Hr b j k).2) 11:=by
  show Cp r ((Hr b j k).2++[11])=_
  rw[Qr];rfl
 have h1:(Cp r (Hr b j k).2).2=k:=h1;have hl1:(Cp r (Hr b j k).2).1.length=b.length:=by rw[h2.1,hr]
 have e2:Sk (Cp r (Hr b j k).2) 11=((Cp r (Hr b j k).2).1.take k++At (b.length-k) 32,k):=by
  rw[Nn _ h1]
  show((Cp r (Hr b j k).2).1.take k++At ((Cp r (Hr b j k).2).1.length-k) 32,k)=_
  rw[hl1]
 have key:∀i,i<b.length→gI (Cp r (De b j k).2).1 i=if i<k then gI (Cp r (Hr b j k).2).1 i else 32:=fun i hi=>by
  rw[e,e2];unfold gI;simp only;split
  ·rename_i hik
   rw[List.getElem?_append_left (by rw[Cn];omega),List.getElem?_take,if_pos hik]
  ·rename_i hik
   rw[List.getElem?_append_right (by rw[Cn];omega),List.getElem?_replicate,if_pos (by rw[Cn];omega)]
   rfl
 have hlen:(Cp r (De b j k).2).1.length=r.1.length:=by
  rw[e,e2,hr];simp only[Bg,Cn,List.length_replicate];omega
 have h2':(Cp r (De b j k).2).2=k:=by rw[e,e2]
 refine⟨⟨h2',⟨hlen,fun i hi hl=>?_⟩,hk⟩,⟨h2',⟨hlen,fun i hi hl=>?_⟩,hk⟩⟩
 ·rw[key i hi]
  split
  ·exact h2.2 i hi hl
  ·rename_i hik;exact(hbl i (by omega) hi).symm
 ·rw[key i hi]
  split
  ·rename_i hik
   rcases hl with hl|hl
   ·exact h2.2 i hi (.inl hl)
   ·omega
  ·rename_i hik;exact(hbl i (by omega) hi).symm
theorem J0i {b c:List Int}(hc:c.length=b.length)(h:∀i,i<b.length→gI c i=gI b i):c=b:=by
 apply List.ext_getElem?
 intro i;rcases Av i b.length with hi|hi
 ·have:=h i hi
  unfold gI at this;rw[Bw hi,Bw (by omega)]at this ⊢
  simpa using this
 ·rw[List.getElem?_eq_none hi,List.getElem?_eq_none (by omega)]
theorem Q5o {b:List Int}{x y:Nat}(hx:x≤b.length)(hy:y≤b.length):(Fv b x y=[])↔x=y:=by
 unfold Fv
 constructor
 ·intro h
  split at h
  ·have:=congrArg List.length h
   simp at this;omega
  ·split at h
   ·have:=congrArg List.length h
    simp at this;omega
   ·cases h
 ·rintro rfl
  simp
def Jx (x y:Nat):Nat:=if x≤y then y-x else min (x-y) (1+y)
theorem L3 {b:List Int}{x y:Nat}(hx:x≤b.length)(hy:y≤b.length):(Fv b x y).length=Jx x y:=by
 unfold Fv Jx;split
 ·simp;omega
 ·exact I92
theorem J6y {a b:List Int}{st at_:Nat}(hl:a.length=b.length)(hb:okB b)(hst:st≤b.length)(hat:at_≤b.length):
 Cp (a,st) (Ec a st b at_)=(b,at_)∧(Ec a st b at_).length≤2+Es b b.length+Jx (Es b b.length) at_∧(Ec a st b at_=[]↔a=b∧st=at_):=by
 obtain⟨d1,d2,d3,d4,d5⟩:=Kp a b (Au b.length);obtain⟨f1,f2⟩:=Qw b b.length;have S0:=Led.start b (a,st) hst;have hr:((a,st):List Int×Nat).1.length=b.length:=hl;have fin:∀{j:Nat×List Int},Led b (a,st) j 0 0→(∀i,i<b.length→gI (Cp (a,st) j.2).1 i=gI b i)→Cp (a,st) (Hr b j at_).2=(b,at_):=fun {j} hj hall=>by
  obtain⟨h1,_⟩:=hj.to_ hb hr (k:=at_) hat;obtain⟨k1,k2⟩:=hj.to_ hb hr (k:=at_) hat;have e:Cp (a,st) (Hr b j at_).2=Cp ((Cp (a,st) j.2).1,j.1) (Fv b j.1 at_):=by
   show Cp (a,st) (j.2++Fv b j.1 at_)=_
   rw[Qr,←Nn _ hj.1]
  obtain⟨q1,q2⟩:=Zg hb (x:=j.1) (y:=at_) (cs:=(Cp (a,st) j.2).1) (by rw[hj.2.1.1,hr]) hj.2.2 hat
  rw[←e]at q1 q2;have:(Cp (a,st) (Hr b j at_).2).1=b:=J0i (by rw[q2.1];exact hj.2.1.1.trans hr) (fun i hi=>q2.2 i hi (.inl (hall i hi)))
  rw[Nn _ q1,this]
 unfold Ec;simp only;split
 ·rename_i hxy
  have hne:a≠b:=by
   rintro rfl;obtain⟨g1,g2,g3,g4⟩:=R0 a a a.length (a.length-0) 0;exact g4 (by
    have:El a a 0 a.length=Vf a a a.length (a.length-0) 0:=rfl;omega) rfl
  have hlast:=J8w a b (Au b.length) hxy;generalize El a b 0 b.length=x at*;generalize Gj a b 0 b.length=y at*
  -- the plain way
  have O:=S0.over hb hr (u:=x) (v:=y) (by omega) d3
  have O2:Led b (a,st) (Df b (st,[]) x y) 0 0:=O.1;have A1:Cp (a,st) (Hr b (Df b (st,[]) x y) at_).2=(b,at_):=fin O2 (fun i hi=>by
   rcases Av i x with h1|h1
   ·exact O.2.2.1.2 i hi (.inl (d4 i (Au _) h1))
   ·rcases Av i y with h2|h2
    ·exact O.2.2.1.2 i hi (.inr ⟨h1,h2⟩)
    ·exact O.2.2.1.2 i hi (.inl (d5 i h2 hi)))
  have L1:(Hr b (Df b (st,[]) x y) at_).2.length=Jx st x+(y-x)+Jx y at_:=by
   show((([]++Fv b st x)++(b.drop x).take (y-x))++Fv b y at_).length=_
   rw[Bg,Bg,Bg,L3 hst (by omega),L3 d3 hat,Cn,Cy,List.length_nil]
   omega
  split
  ·rename_i htl
   obtain⟨t1,t2,t3,t4,t5⟩:=Kp a b f1;obtain⟨m1,m2,m3,m4,m5⟩:=Kp a b (Au (Es b b.length));have m0:¬El a b 0 (Es b b.length)<Gj a b 0 (Es b b.length)→∀i,i<Es b b.length→gI a i=gI b i:=fun h i hi=>by
    rcases Av i (El a b 0 (Es b b.length))with h1|h1
    ·exact m4 i (Au _) h1
    ·exact m5 i (by omega) hi
   generalize hfull:Es b b.length=full at*;generalize El a b full b.length=fi at*;generalize Gj a b full b.length=fh at*;generalize El a b 0 full=lo at*;generalize Gj a b 0 full=hi at*;have hbl:∀p,full≤p→∀i,p≤i→i<b.length→gI b i=32:=fun p hp i h1 h2=>f2 i (by omega) h2
   have Q:∀p,full≤p→p<full+(fi+1-full)→∀w∈Li b st at_ p lo hi,Cp (a,st) w=(b,at_)∧w≠[]:=fun p hp hp2 w hw=>by
    have hpn:p≤b.length:=by omega
    unfold Li at hw;split at hw
    ·rename_i hlh
     simp only[List.mem_cons,List.not_mem_nil,or_false]at hw;rcases hw with rfl|rfl
     ·have P1:=S0.over hb hr (u:=lo) (v:=hi) (by omega) (by omega)
      have P2:=P1.2.erase hb hr (k:=p) hpn (hbl p hp);refine⟨fin (P1.1.erase hb hr (k:=p) hpn (hbl p hp)).1 (fun i hi'=>?_),fun e=>?_⟩
      ·have N0:=trivial;exact K43
      ·have:=congrArg List.length e
       unfold J6c Hr De at this;simp at this
     ·have P1:=S0.erase hb hr (k:=p) hpn (hbl p hp)
      have P2:=P1.1.over hb hr (u:=lo) (v:=hi) (by omega) (by omega)
      have P3:=P1.2.over hb hr (u:=lo) (v:=hi) (by omega) (by omega)
      refine⟨fin P2.1 (fun i hi'=>?_),fun e=>?_⟩
      ·have N1:=trivial;exact K43
      ·have:=congrArg List.length e
       unfold Q5g Hr Df Hr De at this;simp at this
    ·rename_i hlh
     simp only[List.mem_cons,List.not_mem_nil,or_false]at hw;subst hw;have P1:=S0.erase hb hr (k:=p) hpn (hbl p hp);refine⟨fin P1.1 (fun i hi'=>?_),fun e=>?_⟩
     ·rcases Av i p with h1|h1
      ·rcases Av i full with h4|h4
       ·exact P1.1.2.1.2 i hi' (.inl (m0 hlh i h4))
       ·exact P1.1.2.1.2 i hi' (.inl (t4 i h4 (by omega)))
      ·exact P1.2.2.1.2 i hi' (.inr ⟨h1,hi'⟩)
     ·have:=congrArg List.length e
      unfold J1h Hr De at this;simp at this
   have BB:Cp (a,st) (Mn b st at_ lo hi (fi+1-full) full (Hr b (Df b (st,[]) x y) at_).2)=(b,at_)∧Mn b st at_ lo hi (fi+1-full) full (Hr b (Df b (st,[]) x y) at_).2≠[]:=
    Xk (Q:=fun w=>Cp (a,st) w=(b,at_)∧w≠[]) _ _ _ ⟨A1,fun e=>by
     have:=congrArg List.length e;rw[L1]at this;simp at this;omega⟩ Q
   refine⟨BB.1,?_,⟨fun h=>absurd h BB.2,fun h=>absurd h.1 hne⟩⟩
   obtain⟨f,hf⟩:∃f,fi+1-full=f+1:=⟨fi-full,by omega⟩
   rw[hf];have U0:(J1h b st at_ full).length=Jx st full+1+Jx full at_:=by
    show((([]++Fv b st full)++[11])++Fv b full at_).length=_
    rw[Bg,Bg,Bg,L3 hst f1,L3 f1 hat];simp
   by_cases hlh:lo<hi
   ·have hmem:J6c b st at_ full lo hi∈Li b st at_ full lo hi:=by unfold Li;rw[if_pos hlh];simp
    refine Aq (Sx f full _ hmem) ?_
    have:(J6c b st at_ full lo hi).length=Jx st lo+(hi-lo)+Jx hi full+1+Jx full at_:=by
     show((((([]++Fv b st lo)++(b.drop lo).take (hi-lo))++Fv b hi full)++[11])++Fv b full at_).length=_
     simp only[Bg,Cn,Cy,List.length_nil,List.length_cons];rw[L3 hst (by omega),L3 (by omega) (by omega),L3 (by omega) hat]
     omega
    rw[this];have q1:Jx st lo≤1+lo:=by unfold Jx;split<;>omega
    have q2:Jx hi full=full-hi:=by unfold Jx;rw[if_pos m3]
    omega
   ·have hmem:J1h b st at_ full∈Li b st at_ full lo hi:=by unfold Li;rw[if_neg hlh];simp
    refine Aq (Sx f full _ hmem) ?_
    rw[U0];have q1:Jx st full≤1+full:=by unfold Jx;split<;>omega
    omega
  ·rename_i htl
   refine⟨A1,?_,⟨fun h=>?_,fun h=>absurd h.1 hne⟩⟩
   ·rw[L1]
    obtain⟨t1,t2,t3,t4,t5⟩:=Kp a b f1;have hyf:y≤Es b b.length:=by
     rcases Av (Es b b.length) y with h|h
     ·exact absurd (by
       rcases Av (y-1) (El a b (Es b b.length) b.length)with h5|h5
       ·exact t4 _ (by omega) h5
       ·exact t5 _ (by omega) (by omega)) hlast
     ·exact h
    have q1:Jx st x≤1+x:=by unfold Jx;split<;>omega
    have q2:Jx y at_≤(Es b b.length-y)+Jx (Es b b.length) at_:=by
     unfold Jx;split<;>split<;>omega
    omega
   ·have:=congrArg List.length h
    rw[L1]at this;simp at this;omega
 ·rename_i hxy
  have hab:∀i,i<b.length→gI a i=gI b i:=fun i hi=>by
   rcases Av i (El a b 0 b.length)with h1|h1
   ·exact d4 i (Au _) h1
   ·exact d5 i (by omega) hi
  have e:=J0i hl hab;refine⟨fin S0 (fun i hi=>hab i hi),?_,?_⟩
  ·show([]++Fv b st at_).length≤_
   rw[Hq,L3 hst hat];unfold Jx;split<;>split<;>omega
  ·show []++Fv b st at_=[]↔_
   rw[Hq,Q5o hst hat];exact⟨fun h=>⟨e,h⟩,fun h=>h.2⟩
