/-
  Part ZMotS.
-/
import Derived.Test.YtiahhfglhlgfiaaGreatZMapV
import Derived.IntWalk
set_option maxRecDepth 100000
set_option maxHeartbeats 16000000
set_option linter.unusedVariables false
set_option linter.unusedSimpArgs false
namespace Go.Proofs.YtiahhfglhlgfiaaGreat
open Go.RowKit
open _root_.Nat renaming eq_zero_or_pos→Bk,le_refl→Ai,lt_or_ge→At,ne_of_gt→J0a
open _root_.List renaming getElem?_cons_succ→Af,getElem?_cons_zero→Ae,getElem?_toArray→Ag
section
variable {A:Option Addr}{w:World}{n c k:Nat}{l:List Int}{R:Option (Nat×Bool)→Prop}{key arg o q:Int}{op ar big:Bool}
theorem oH (args:Array Value)(w:World):Sem.run Tryz.prog (callFunc 159 args) w=.ok (.enter 159 args) w:=rfl
theorem oI (args:Array Value)(w:World):Sem.run Tryz.prog (callFunc 86 args) w=.ok (.enter 86 args) w:=rfl
theorem sH (args:Array Value)(w:World):Sem.run Tryz.prog (callFunc 160 args) w=.ok (.enter 160 args) w:=rfl
section
variable {l:List Int} {A:Option Addr} {n c:Nat} {k g:Nat} {op big:Bool} {w:World}
theorem U6 (hl:Bi w A n c l)(hn:n≤4096)(hk:k≤n)(hg2:g≤4096)(w1:World)(he:Al w w1):
 Calls Tryz.prog 152 #[.agg #[.slice A n c,.int .i64 k,.int .i64 g,.bool op],.func (.func 159) #[] #[],.bool big] w1 fun e w'=>e=.returned (.int .i64 (Nw (Fd l · big) g k))∧Al w1 w':=
 Tj (s:=(Fd l · big)) (hl.ext he) hn hk hg2 (A4 oH) (A4 (fun j hj=>by have:=Qb (l:=l) (k:=j) (big:=big) (by rw[hl.len];exact hj);rw[hl.len]at this;exact this)) (A4 fun w2 j hj h2=>lL h2 hn hj)
theorem U7 (hl:Bi w A n c l)(hn:n≤4096)(hk:k≤n)(hg2:g≤4096)(w1:World)(he:Al w w1):
 Calls Tryz.prog 152 #[.agg #[.slice A n c,.int .i64 k,.int .i64 g,.bool op],.func (.func 86) #[] #[],.bool big] w1 fun e w'=>e=.returned (.int .i64 (Nw (Fj l · big) g k))∧Al w1 w':=
 Tj (s:=(Fj l · big)) (hl.ext he) hn hk hg2 (A4 oI) (A4 (fun j hj=>Nat.le_trans (Lg (by rw[hl.len];exact hj)) hj)) (A4 fun w2 j hj h2=>Yr h2 hn hj)
theorem Vi (hl:Bi w A n c l)(hn:n≤4096)(hk:k≤n)(hg2:g≤4096)(w1:World)(he:Al w w1):
 Calls Tryz.prog 152 #[.agg #[.slice A n c,.int .i64 k,.int .i64 g,.bool op],.func (.func 160) #[] #[],.bool big] w1 fun e w'=>e=.returned (.int .i64 (Nw (Cl l · big) g k))∧Al w1 w':=
 Tj (s:=(Cl l · big)) (hl.ext he) hn hk hg2 (A4 sH) (A4 (fun j hj=>by have:=fA (l:=l) (k:=j) (big:=big) (by rw[hl.len];exact hj);rw[hl.len]at this;exact this)) (A4 fun w2 j hj h2=>qB h2 hn hj)
theorem Gz {P:Program}{f:FuncId}{args:Array Value}{R:Option (Nat×Bool)→Prop}{o:Option (Nat×Bool)}(h:Calls P f args w fun e w'=>e=Dk o∧Al w w')(ho:R o):
 Calls P f args w fun e w'=>(∃o,R o∧e=Dk o)∧Al w w':=h.mono fun _ _ ⟨h1,h2⟩=>⟨⟨o,ho,h1⟩,h2⟩
theorem hH {key:Int}(hl:Bi w A n c l)(wl:∀x∈l,(Lit.int .i64 x).wf=true)(hn:n≤4096)(hk:k≤n)(hg1:1≤g)(hg2:g≤4096)(hkey:Jr key=true):
 Calls Tryz.prog 143 #[.agg #[.slice A n c,.int .i64 k,.int .i64 g,.bool op],.int .i64 key] w fun e w'=>(∃o,C8 l k key g op o∧e=Dk o)∧Al w w':=by
 have hnc:=hl.ncap;have hcm:=hl.nmax;have hlen:=hl.len;have hX1:∀big,Nw (Fd l · big) g k≤n:=fun big=>by rw[←hlen];exact Ln (fun k hk=>Qb hk) g (by omega)
 have hX2:∀big,Nw (Cl l · big) g k≤n:=fun big=>by rw[←hlen];exact Ln (fun k hk=>fA hk) g (by omega)
 unfold Jr at hkey;rw[decide_eq_true_eq]at hkey;rcases hkey with rfl|rfl|rfl|rfl|rfl|rfl|rfl|rfl|rfl|rfl|rfl|rfl|rfl
 ·skip
  rcases Bk k with h0|h0
  ·exact Gz (R:=C8 l k _ g op) (xE (l:=l) hnc hcm hn hk hg1 hg2 h0) (by simp[C8,E3,h0])
  ·exact Gz (R:=C8 l k _ g op) (xD (l:=l) hnc hcm hn hk hg1 hg2 h0) (by simp[C8,E3,J0a h0])
 ·skip
  exact Gz (R:=C8 l k _ g op) (uZ (l:=l) hnc hcm hn hk hg1 hg2 (A4 fun w1 _=>Xv hnc hcm hn hk hg1 hg2)) (by simp[C8,E3,hlen])
 ·skip
  exact Gz (R:=C8 l k _ g op) (yM (l:=l) hnc hcm hn hk hg1 hg2) (by simp[C8,E3])
 ·skip
  exact Gz (R:=C8 l k _ g op) (xG (l:=l) hnc hcm hn hk hg1 hg2 (A4 fun w1 he=>oC (hl.ext he) hn)) (by simp[C8,E3])
 ·skip
  rcases Bk n with h0|h0
  ·exact Gz (R:=C8 l k _ g op) (uW (l:=l) hnc hcm hn hk hg1 hg2 h0) (by simp[C8,E3,hlen,h0])
  ·exact Gz (R:=C8 l k _ g op) (xL (l:=l) hnc hcm hn hk hg1 hg2 h0) (by simp[C8,E3,hlen,J0a h0])
 ·skip
  rcases Bk n with h0|h0
  ·exact Gz (R:=C8 l k _ g op) (qP (l:=l) hnc hcm hn hk hg1 hg2 h0) (by simp[C8,E3,hlen,h0])
  ·exact Gz (R:=C8 l k _ g op) (uX (l:=l) hnc hcm hn hk hg1 hg2 h0) (by simp[C8,E3,hlen,J0a h0])
 ·skip
  rcases Bk n with h0|h0
  ·exact Gz (R:=C8 l k _ g op) (qQ (l:=l) hnc hcm hn hk hg1 hg2 h0) (by simp[C8,E3,hlen,h0])
  ·exact Gz (R:=C8 l k _ g op) (uY (l:=l) hnc hcm hn hk hg1 hg2 h0 (A4 fun w1 he=>Yq hnc hcm hn hk h0 (hX1 _) (A4 fun w2 he2=>U6 hl hn hk hg2 w2 (he.trans he2)))) (by simp[C8,E3,hlen,J0a h0])
 ·skip
  rcases Bk n with h0|h0
  ·exact Gz (R:=C8 l k _ g op) (uS (l:=l) hnc hcm hn hk hg1 hg2 h0) (by simp[C8,E3,hlen,h0])
  ·exact Gz (R:=C8 l k _ g op) (xH (l:=l) hnc hcm hn hk hg1 hg2 h0 (A4 fun w1 he=>Yq hnc hcm hn hk h0 (hX1 _) (A4 fun w2 he2=>U6 hl hn hk hg2 w2 (he.trans he2)))) (by simp[C8,E3,hlen,J0a h0])
 ·skip
  rcases Bk k with h0|h0
  ·exact Gz (R:=C8 l k _ g op) (uR (l:=l) hnc hcm hn hk hg1 hg2 h0) (by simp[C8,E3,h0])
  ·exact Gz (R:=C8 l k _ g op) (xF (l:=l) hnc hcm hn hk hg1 hg2 h0 (A4 (U7 hl hn hk hg2))) (by simp[C8,E3,J0a h0])
 ·skip
  rcases Bk k with h0|h0
  ·exact Gz (R:=C8 l k _ g op) (uU (l:=l) hnc hcm hn hk hg1 hg2 h0) (by simp[C8,E3,h0])
  ·exact Gz (R:=C8 l k _ g op) (xJ (l:=l) hnc hcm hn hk hg1 hg2 h0 (A4 (U7 hl hn hk hg2))) (by simp[C8,E3,J0a h0])
 ·skip
  rcases Bk n with h0|h0
  ·exact Gz (R:=C8 l k _ g op) (qR (l:=l) hnc hcm hn hk hg1 hg2 h0) (by simp[C8,E3,hlen,h0])
  ·exact Gz (R:=C8 l k _ g op) (vA (l:=l) hnc hcm hn hk hg1 hg2 h0 (A4 fun w1 he=>eY hnc hcm hn hk h0 (hX2 _) (A4 fun w2 he2=>Vi hl hn hk hg2 w2 (he.trans he2)))) (by simp[C8,E3,hlen,J0a h0])
 ·skip
  rcases Bk n with h0|h0
  ·exact Gz (R:=C8 l k _ g op) (uT (l:=l) hnc hcm hn hk hg1 hg2 h0) (by simp[C8,E3,hlen,h0])
  ·exact Gz (R:=C8 l k _ g op) (xI (l:=l) hnc hcm hn hk hg1 hg2 h0 (A4 fun w1 he=>eY hnc hcm hn hk h0 (hX2 _) (A4 fun w2 he2=>Vi hl hn hk hg2 w2 (he.trans he2)))) (by simp[C8,E3,hlen,J0a h0])
 ·skip
  rcases Bk n with h0|h0
  ·exact Gz (uV (l:=l) hnc hcm hn hk hg1 hg2 h0) (by unfold C8;rw[if_pos rfl];exact .inr ⟨fun i _ h2=>absurd h2 (by rw[hlen];omega),rfl⟩)
  ·exact xK (l:=l) (R:=C8 l k 37 g op) hnc hcm hn hk hg1 hg2 h0 (A4 fun w1 he=>(cD (hl.ext he) wl hn hk).mono fun e w' ⟨h1,h2⟩=>⟨by
    rcases h1 with⟨i,m,hf,rfl⟩|⟨hno,rfl⟩
    ·exact⟨some (m,true),by unfold C8;rw[if_pos rfl];exact .inl ⟨i,m,hf,rfl⟩,rfl⟩
    ·exact⟨none,by unfold C8;rw[if_pos rfl];exact .inr ⟨hno,rfl⟩,rfl⟩,h2⟩)
theorem iV {key arg:Int}(hl:Bi w A n c l)(hn:n≤4096)(hk:k≤n)(hg1:1≤g)(hg2:g≤4096)(hkey:J0 key=true):
 Calls Tryz.prog 142 #[.agg #[.slice A n c,.int .i64 k,.int .i64 g,.bool op],.int .i64 key,.int .i64 arg] w fun e w'=>(∃o,o=Xg l k key arg g∧e=Dk o)∧Al w w':=by
 have hnc:=hl.ncap;have hcm:=hl.nmax;have hlen:=hl.len;have HR:∀w1,Al w w1→Calls Tryz.prog 149 #[.agg #[.slice A n c,.int .i64 k,.int .i64 g,.bool op],.int .i64 arg,.int .i64 1] w1 fun e w'=>e=Pj (Hc l arg (n-(k+1)) (k+1) g)∧Al w1 w':=fun w1 he=>dE (hl.ext he) hn hk hg1 hg2
 have HL:∀w1,Al w w1→Calls Tryz.prog 149 #[.agg #[.slice A n c,.int .i64 k,.int .i64 g,.bool op],.int .i64 arg,.int .i64 (-1)] w1 fun e w'=>e=Pj (Jd l arg k g)∧Al w1 w':=fun w1 he=>iZ (hl.ext he) hn hk hg1 hg2
 have b1:∀j,Hc l arg (n-(k+1)) (k+1) g=some j→1≤j∧j≤4096:=fun j h=>by have:=Qd h;omega
 have b2:∀j,Jd l arg k g=some j→j≤4096:=fun j h=>by have:=Qe h;omega
 unfold J0 at hkey;rw[decide_eq_true_eq]at hkey;unfold Xg;rw[hlen];generalize Hc l arg (n-(k+1)) (k+1) g=x at*;generalize Jd l arg k g=y at*;rcases hkey with rfl|rfl|rfl|rfl
 ·rcases x with _|j
  ·exact Gz (R:=fun o=>o=_) (sF (l:=l) hnc hcm hn hk hg1 hg2 (A4 HR)) (by simp)
  ·exact Gz (R:=fun o=>o=_) (sE (l:=l) hnc hcm hn hk hg1 hg2 (b1 j rfl) (A4 HR)) (by simp)
 ·rcases x with _|j
  ·exact Gz (R:=fun o=>o=_) (sD (l:=l) hnc hcm hn hk hg1 hg2 (A4 HR)) (by simp)
  ·exact Gz (R:=fun o=>o=_) (sC (l:=l) hnc hcm hn hk hg1 hg2 (b1 j rfl) (A4 HR)) (by simp)
 ·rcases y with _|j
  ·exact Gz (R:=fun o=>o=_) (vZ (l:=l) hnc hcm hn hk hg1 hg2 (A4 HL)) (by simp)
  ·exact Gz (R:=fun o=>o=_) (vY (l:=l) hnc hcm hn hk hg1 hg2 (b2 j rfl) (A4 HL)) (by simp)
 ·rcases y with _|j
  ·exact Gz (R:=fun o=>o=_) (vX (l:=l) hnc hcm hn hk hg1 hg2 (A4 HL)) (by simp)
  ·exact Gz (R:=fun o=>o=_) (vW (l:=l) hnc hcm hn hk hg1 hg2 (b2 j rfl) (A4 HL)) (by simp)
end
theorem Vw (key:Int)(w:World):Calls Tryz.prog 141 #[.int .i64 key] w fun e w'=>e=.returned (.tuple #[.bool (Jr key||J0 key),.bool (J0 key)])∧w=w':=by
 by_cases h:key=104∨key=108∨key=48∨key=94∨key=36∨key=124∨key=119∨key=87∨key=98∨key=66∨key=101∨key=69∨key=37∨key=102∨key=116∨key=70∨key=84
 ·rcases h with rfl|rfl|rfl|rfl|rfl|rfl|rfl|rfl|rfl|rfl|rfl|rfl|rfl|rfl|rfl|rfl|rfl
  all_goals
   go_enter Tryz.func141,Tryz.ntmps141
   go_wp2_with fail
   go_ret2
   exact⟨rfl,rfl⟩
 ·have H:Hid (Jr key=false∧J0 key=false):=A4 ⟨by unfold Jr;simp;omega,by unfold J0;simp;omega⟩
  simp only[not_or]at h;obtain⟨h1,h2,h3,h4,h5,h6,h7,h8,h9,h10,h11,h12,h13,h14,h15,h16,h17⟩:=h;have g1:(key==104)=false:=by simpa using h1
  have g2:(key==108)=false:=by simpa using h2
  have g3:(key==48)=false:=by simpa using h3
  have g4:(key==94)=false:=by simpa using h4
  have g5:(key==36)=false:=by simpa using h5
  have g6:(key==124)=false:=by simpa using h6
  have g7:(key==119)=false:=by simpa using h7
  have g8:(key==87)=false:=by simpa using h8
  have g9:(key==98)=false:=by simpa using h9
  have g10:(key==66)=false:=by simpa using h10
  have g11:(key==101)=false:=by simpa using h11
  have g12:(key==69)=false:=by simpa using h12
  have g13:(key==37)=false:=by simpa using h13
  have g14:(key==102)=false:=by simpa using h14
  have g15:(key==116)=false:=by simpa using h15
  have g16:(key==70)=false:=by simpa using h16
  have g17:(key==84)=false:=by simpa using h17
  rw[H.out.1,H.out.2];clear h1 h2 h3 h4 h5 h6 h7 h8 h9 h10 h11 h12 h13 h14 h15 h16 h17;go_enter Tryz.func141,Tryz.ntmps141
  go_wp2_with fail
  go_ret2
  exact⟨rfl,rfl⟩
def Uu:Option (Nat×Bool)→Ending
 |some (a,i)=>.returned (.tuple #[.int .i64 a,.bool i,.int .i64 0])
 |none=>.returned (.tuple #[.int .i64 0,.bool false,.int .i64 5])
theorem Vq (a:Nat)(i:Bool):Uu (some (a,i))=.returned (.tuple #[.int .i64 a,.bool i,.int .i64 0]):=rfl
theorem Vr:Uu none=.returned (.tuple #[.int .i64 0,.bool false,.int .i64 5]):=rfl
def Y8 (n:Nat)(k key cnt:Int):Prop:=n≤4096∧0≤k∧(k=0∨k<n)∧0≤cnt∧cnt≤999∧(Jr key||J0 key)=true
theorem Ue {k key cnt arg:Int}(hnc:n≤c)(hcm:c≤maxLen):
 Calls Tryz.prog 140 #[.slice A n c,.int .i64 k,.agg #[.int .i64 key,.int .i64 cnt,.int .i64 arg]] w fun e w'=>(∃er:Int,e=.returned (.int .i64 er)∧((er=0∧Y8 n k key cnt)∨((er !=0)=true∧¬Y8 n k key cnt)))∧Al w w':=by
 unfold maxLen at hcm;by_cases hn:4096<n
 ·have HN:Hid (¬Y8 n k key cnt):=A4 (fun h=>by have:=h.1;omega)
  go_enter Tryz.func140,Tryz.ntmps140
  exact I103
 by_cases hk:k<0∨(0<k∧(n:Int)≤k)∨cnt<0∨999<cnt
 ·have HN:Hid (¬Y8 n k key cnt):=A4 (fun h=>by obtain⟨_,h1,h2,h3,h4,_⟩:=h;omega)
  have hp:∀v:Int,Hid (k<0∨(0<k∧(n:Int)≤k)∨cnt<0∨999<cnt):=fun _=>A4 hk
  clear hk;go_enter Tryz.func140,Tryz.ntmps140
  go_wp2_with fail
  all_goals (try(exfalso;have:=(hp 0).out;omega))
  all_goals
   go_ret
   exact⟨⟨1,rfl,.inr ⟨by decide,HN.out⟩⟩,Al.alloc _ _⟩
 ·have hm:k≤if(1:Int)<n then(n:Int)-1 else 0:=by split<;>omega
  have HK:=A4 (Vw key (w.alloc (.cells #[.int .i64 key,.int .i64 cnt,.int .i64 arg] 202)));rcases hb:(Jr key||J0 key)with _|_
  ·have HN:Hid (¬Y8 n k key cnt):=A4 (fun h=>by have:=h.2.2.2.2.2;rw[hb]at this;cases this)
   rw[hb]at HK;have h1:¬k<0:=by omega
   have h2:¬cnt<0:=by omega
   have h3:¬999<cnt:=by omega
   clear hb hk;go_enter Tryz.func140,Tryz.ntmps140
   go_wp2_with fail
   all_goals
    refine HK.out.mono ?_
    rintro e w1 ⟨rfl,rfl⟩;exact I103
  ·have HN:Hid (Y8 n k key cnt):=A4 ⟨by omega,by omega,by omega,by omega,by omega,hb⟩
   rw[hb]at HK;have h1:¬k<0:=by omega
   have h2:¬cnt<0:=by omega
   have h3:¬999<cnt:=by omega
   clear hb hk;go_enter Tryz.func140,Tryz.ntmps140
   go_wp2_with fail
   all_goals
    refine HK.out.mono ?_
    rintro e w1 ⟨rfl,rfl⟩;go_wp2_with fail
    go_ret
    exact⟨⟨_,rfl,.inl ⟨rfl,HN.out⟩⟩,Al.alloc _ _⟩
theorem cK   
 (HC:Hid (∀w:World,Calls Tryz.prog 140 #[.slice A n c,.int .i64 k,.agg #[.int .i64 key,.int .i64 0,.int .i64 arg]] w fun e w'=>e=.returned (.int .i64 0)∧Al w w'))
 (HK:Hid (∀w:World,Calls Tryz.prog 141 #[.int .i64 key] w fun e w'=>e=.returned (.tuple #[.bool true,.bool false])∧w=w'))
 (HP:Hid (∀w1:World,Al w w1→Calls Tryz.prog 143 #[.agg #[.slice A n c,.int .i64 k,.int .i64 1,.bool op],.int .i64 key] w1 fun e w'=>(∃o,R o∧e=Dk o)∧Al w1 w')):
 Calls Tryz.prog 128 #[.slice A n c,.int .i64 k,.agg #[.int .i64 key,.int .i64 0,.int .i64 arg],.bool op] w fun e w'=>(∃o,R o∧e=Uu o)∧Al w w':=by
 have N0:=trivial;exact wT
theorem cJ   
 (HC:Hid (∀w:World,Calls Tryz.prog 140 #[.slice A n c,.int .i64 k,.agg #[.int .i64 key,.int .i64 1,.int .i64 arg]] w fun e w'=>e=.returned (.int .i64 0)∧Al w w'))
 (HK:Hid (∀w:World,Calls Tryz.prog 141 #[.int .i64 key] w fun e w'=>e=.returned (.tuple #[.bool true,.bool false])∧w=w'))
 (HP:Hid (∀w1:World,Al w w1→Calls Tryz.prog 143 #[.agg #[.slice A n c,.int .i64 k,.int .i64 1,.bool op],.int .i64 key] w1 fun e w'=>(∃o,R o∧e=Dk o)∧Al w1 w')):
 Calls Tryz.prog 128 #[.slice A n c,.int .i64 k,.agg #[.int .i64 key,.int .i64 1,.int .i64 arg],.bool op] w fun e w'=>(∃o,R o∧e=Uu o)∧Al w w':=by
 have N1:=trivial;exact wT
theorem cI {q:Nat}(hq2:2≤q)
 (HC:Hid (∀w:World,Calls Tryz.prog 140 #[.slice A n c,.int .i64 k,.agg #[.int .i64 key,.int .i64 q,.int .i64 arg]] w fun e w'=>e=.returned (.int .i64 0)∧Al w w'))
 (HK:Hid (∀w:World,Calls Tryz.prog 141 #[.int .i64 key] w fun e w'=>e=.returned (.tuple #[.bool true,.bool false])∧w=w'))
 (HP:Hid (∀w1:World,Al w w1→Calls Tryz.prog 143 #[.agg #[.slice A n c,.int .i64 k,.int .i64 q,.bool op],.int .i64 key] w1 fun e w'=>(∃o,R o∧e=Dk o)∧Al w1 w')):
 Calls Tryz.prog 128 #[.slice A n c,.int .i64 k,.agg #[.int .i64 key,.int .i64 q,.int .i64 arg],.bool op] w fun e w'=>(∃o,R o∧e=Uu o)∧Al w w':=by
 have N2:=trivial;exact wT
theorem cO   
 (HC:Hid (∀w:World,Calls Tryz.prog 140 #[.slice A n c,.int .i64 k,.agg #[.int .i64 key,.int .i64 0,.int .i64 arg]] w fun e w'=>e=.returned (.int .i64 0)∧Al w w'))
 (HK:Hid (∀w:World,Calls Tryz.prog 141 #[.int .i64 key] w fun e w'=>e=.returned (.tuple #[.bool true,.bool true])∧w=w'))
 (HP:Hid (∀w1:World,Al w w1→Calls Tryz.prog 142 #[.agg #[.slice A n c,.int .i64 k,.int .i64 1,.bool op],.int .i64 key,.int .i64 arg] w1 fun e w'=>(∃o,R o∧e=Dk o)∧Al w1 w')):
 Calls Tryz.prog 128 #[.slice A n c,.int .i64 k,.agg #[.int .i64 key,.int .i64 0,.int .i64 arg],.bool op] w fun e w'=>(∃o,R o∧e=Uu o)∧Al w w':=by
 have N3:=trivial;exact wT
theorem cN   
 (HC:Hid (∀w:World,Calls Tryz.prog 140 #[.slice A n c,.int .i64 k,.agg #[.int .i64 key,.int .i64 1,.int .i64 arg]] w fun e w'=>e=.returned (.int .i64 0)∧Al w w'))
 (HK:Hid (∀w:World,Calls Tryz.prog 141 #[.int .i64 key] w fun e w'=>e=.returned (.tuple #[.bool true,.bool true])∧w=w'))
 (HP:Hid (∀w1:World,Al w w1→Calls Tryz.prog 142 #[.agg #[.slice A n c,.int .i64 k,.int .i64 1,.bool op],.int .i64 key,.int .i64 arg] w1 fun e w'=>(∃o,R o∧e=Dk o)∧Al w1 w')):
 Calls Tryz.prog 128 #[.slice A n c,.int .i64 k,.agg #[.int .i64 key,.int .i64 1,.int .i64 arg],.bool op] w fun e w'=>(∃o,R o∧e=Uu o)∧Al w w':=by
 have N4:=trivial;exact wT
theorem cM {q:Nat}(hq2:2≤q)
 (HC:Hid (∀w:World,Calls Tryz.prog 140 #[.slice A n c,.int .i64 k,.agg #[.int .i64 key,.int .i64 q,.int .i64 arg]] w fun e w'=>e=.returned (.int .i64 0)∧Al w w'))
 (HK:Hid (∀w:World,Calls Tryz.prog 141 #[.int .i64 key] w fun e w'=>e=.returned (.tuple #[.bool true,.bool true])∧w=w'))
 (HP:Hid (∀w1:World,Al w w1→Calls Tryz.prog 142 #[.agg #[.slice A n c,.int .i64 k,.int .i64 q,.bool op],.int .i64 key,.int .i64 arg] w1 fun e w'=>(∃o,R o∧e=Dk o)∧Al w1 w')):
 Calls Tryz.prog 128 #[.slice A n c,.int .i64 k,.agg #[.int .i64 key,.int .i64 q,.int .i64 arg],.bool op] w fun e w'=>(∃o,R o∧e=Uu o)∧Al w w':=by
 have N5:=trivial;exact wT
def Qw (l:List Int)(n:Nat)(k key cnt arg:Int)(op:Bool)(e:Ending):Prop:=
 (Y8 n k key cnt∧∃o,Ya l k.toNat key arg (max 1 cnt).toNat op o∧e=Uu o)∨(¬Y8 n k key cnt∧∃er:Int,(er !=0)=true∧e=.returned (.tuple #[.int .i64 0,.bool false,.int .i64 er]))
theorem Xy (h:J0 key=false)(h2:(Jr key||J0 key)=true):Jr key=true:=by
 rw[h]at h2;simpa using h2
theorem cP {k key cnt arg:Int}(hnc:n≤c)(hcm:c≤maxLen):
 (Y8 n k key cnt∧∀w:World,Calls Tryz.prog 140 #[.slice A n c,.int .i64 k,.agg #[.int .i64 key,.int .i64 cnt,.int .i64 arg]] w fun e w'=>e=.returned (.int .i64 0)∧Al w w')∨
 (¬Y8 n k key cnt∧∀w:World,Calls Tryz.prog 140 #[.slice A n c,.int .i64 k,.agg #[.int .i64 key,.int .i64 cnt,.int .i64 arg]] w fun e w'=>(∃er:Int,(er !=0)=true∧e=.returned (.int .i64 er))∧Al w w'):=by
 by_cases h:Y8 n k key cnt
 ·refine .inl ⟨h,fun w=>(Ue hnc hcm).mono ?_⟩
  rintro e w' ⟨⟨er,rfl,⟨rfl,_⟩|⟨_,h2⟩⟩,h3⟩
  ·exact⟨rfl,h3⟩
  ·exact absurd h h2
 ·refine .inr ⟨h,fun w=>(Ue hnc hcm).mono ?_⟩
  rintro e w' ⟨⟨er,rfl,⟨_,h2⟩|⟨h1,_⟩⟩,h3⟩
  ·exact absurd h2 h
  ·exact⟨⟨er,h1,rfl⟩,h3⟩
theorem nC {k key cnt arg:Int}(hC:Hid (∀w:World,Calls Tryz.prog 140 #[.slice A n c,.int .i64 k,.agg #[.int .i64 key,.int .i64 cnt,.int .i64 arg]] w fun e w'=>(∃er:Int,(er !=0)=true∧e=.returned (.int .i64 er))∧Al w w')):
 Calls Tryz.prog 128 #[.slice A n c,.int .i64 k,.agg #[.int .i64 key,.int .i64 cnt,.int .i64 arg],.bool op] w fun e w'=>(∃er:Int,(er !=0)=true∧e=.returned (.tuple #[.int .i64 0,.bool false,.int .i64 er]))∧Al w w':=by
 go_enter Tryz.func128,Tryz.ntmps128
 go_wp2_with fail
 refine(hC.out _).mono ?_
 rintro e w1 ⟨⟨er,her,rfl⟩,he1⟩;go_wp2_with fail
 go_ret3
 exact⟨⟨er,her,rfl⟩,(Al.alloc _ _).trans he1⟩
theorem Xm {k key cnt arg:Int}(hl:Bi w A n c l)(wl:∀x∈l,(Lit.int .i64 x).wf=true):
 Calls Tryz.prog 128 #[.slice A n c,.int .i64 k,.agg #[.int .i64 key,.int .i64 cnt,.int .i64 arg],.bool op] w fun e w'=>Qw l n k key cnt arg op e∧Al w w':=by
 have hnc:=hl.ncap;have hcm:=hl.nmax;rcases cP (A:=A) (n:=n) (c:=c) (k:=k) (key:=key) (cnt:=cnt) (arg:=arg) hnc hcm with⟨hok,hC⟩|⟨hok,hC⟩
 ·have hok':=hok
  obtain⟨hn,hk0,hk1,hc0,hc1,hkey⟩:=hok;obtain⟨kn,rfl⟩:=Int.eq_ofNat_of_zero_le hk0;obtain⟨q,rfl⟩:=Int.eq_ofNat_of_zero_le hc0;have hkn:kn≤n:=by omega
  have hK:=Vw key;rw[hkey]at hK;have hfin:∀{g:Nat} (hg:(max 1 (q:Int)).toNat=g),Calls Tryz.prog 128 #[.slice A n c,.int .i64 kn,.agg #[.int .i64 key,.int .i64 q,.int .i64 arg],.bool op] w (fun e w'=>(∃o,Ya l kn key arg g op o∧e=Uu o)∧Al w w')→
   Calls Tryz.prog 128 #[.slice A n c,.int .i64 kn,.agg #[.int .i64 key,.int .i64 q,.int .i64 arg],.bool op] w fun e w'=>Qw l n kn key q arg op e∧Al w w':=by
   intro g hg h;refine h.mono ?_
   rintro e w' ⟨h1,h2⟩;exact⟨.inl ⟨hok',by rw[hg];exact h1⟩,h2⟩
  rcases hf:J0 key with _|_
  ·rw[hf]at hK
   have hp:=Xy hf hkey;have HP:∀g:Nat,1≤g→g≤4096→∀w1:World,Al w w1→Calls Tryz.prog 143 #[.agg #[.slice A n c,.int .i64 kn,.int .i64 g,.bool op],.int .i64 key] w1 fun e w'=>(∃o,Ya l kn key arg g op o∧e=Dk o)∧Al w1 w':=by
    intro g h1 h2 w1 he;refine(hH (hl.ext he) wl hn hkn h1 h2 hp).mono ?_
    exact I87
   rcases q with _|_|q
   ·exact hfin (g:=1) (by omega) (cK (A4 hC) (A4 hK) (A4 (HP 1 (by omega) (by omega))))
   ·exact hfin (g:=1) (by omega) (cJ (A4 hC) (A4 hK) (A4 (HP 1 (by omega) (by omega))))
   ·exact hfin (g:=q+2) (by omega) (cI (q:=q+2) (by omega) (A4 hC) (A4 hK) (A4 (HP (q+2) (by omega) (by omega))))
  ·rw[hf]at hK
   have HP:∀g:Nat,1≤g→g≤4096→∀w1:World,Al w w1→Calls Tryz.prog 142 #[.agg #[.slice A n c,.int .i64 kn,.int .i64 g,.bool op],.int .i64 key,.int .i64 arg] w1 fun e w'=>(∃o,Ya l kn key arg g op o∧e=Dk o)∧Al w1 w':=by
    intro g h1 h2 w1 he;refine(iV (hl.ext he) hn hkn h1 h2 hf).mono ?_
    exact I87
   rcases q with _|_|q
   ·exact hfin (g:=1) (by omega) (cO (A4 hC) (A4 hK) (A4 (HP 1 (by omega) (by omega))))
   ·exact hfin (g:=1) (by omega) (cN (A4 hC) (A4 hK) (A4 (HP 1 (by omega) (by omega))))
   ·exact hfin (g:=q+2) (by omega) (cM (q:=q+2) (by omega) (A4 hC) (A4 hK) (A4 (HP (q+2) (by omega) (by omega))))
 ·refine(nC (A4 hC)).mono ?_
  rintro e w' ⟨h1,h2⟩;exact⟨.inr ⟨hok,h1⟩,h2⟩
def Jw (l:List Int)(n:Nat)(k key cnt arg:Int)(e:Ending):Prop:=
 (∃er:Int,(er !=0)=true∧e=.returned (.tuple #[.int .i64 0,.int .i64 0,.int .i64 er])∧(Y8 n k key cnt→Ya l k.toNat key arg (max 1 cnt).toNat true none))∨
 (Y8 n k key cnt∧∃(a:Nat) (i:Bool),Ya l k.toNat key arg (max 1 cnt).toNat true (some (a,i))∧a≤n∧(i=true→a<n)∧
  ∃lo hi:Int,lo=min k a∧hi=max k a+(if i=true then 1 else 0)∧e=.returned (.tuple #[.int .i64 lo,.int .i64 hi,.int .i64 0]))
theorem iH {k key cnt arg:Int}(hl:Bi w A n c l)(wl:∀x∈l,(Lit.int .i64 x).wf=true):
 Calls Tryz.prog 129 #[.slice A n c,.int .i64 k,.agg #[.int .i64 key,.int .i64 cnt,.int .i64 arg]] w fun e w'=>Jw l n k key cnt arg e∧Al w w':=by
 have hlen:=A4 hl.len;have hx:=Al.alloc w (.cells #[.int .i64 key,.int .i64 cnt,.int .i64 arg] 202);have HG:=A4 (Xm (k:=k) (key:=key) (cnt:=cnt) (arg:=arg) (op:=true) (hl.ext hx) wl);clear wl hl;go_enter Tryz.func129,Tryz.ntmps129
 go_wp2_with fail
 refine HG.out.mono ?_
 rintro e w1 ⟨⟨hok,o,hR,he⟩|⟨hok,er,her,rfl⟩,he1⟩
 ·have HO:=A4 hok
  have HR:=A4 hR;clear hok hR HG;rcases o with _|⟨a,i⟩
  ·rw[Vr]at he
   subst he;go_wp2_with fail
   go_ret3
   exact⟨.inl ⟨5,rfl,rfl,fun _=>HR.out⟩,hx.trans he1⟩
  ·rw[Vq]at he
   subst he;have hb:=kZ (l:=l) (by have:=HO.out;obtain⟨_,h1,h2,_⟩:=this;rw[hlen.out];omega) (by omega) HR.out rfl
   rw[hlen.out]at hb;have HB:=A4 hb;have hk:Hid (0≤k∧(k=0∨k<n)∧n≤4096):=A4 ⟨HO.out.2.1,HO.out.2.2.1,HO.out.1⟩;have ha:=hb.1;have hk1:=hk.out.1;have hn:=hk.out.2.2;have hk2:k≤n:=by have:=hk.out.2.1;omega
   clear hb;cases i
   ·go_wp2_with fail
    all_goals
     go_ret3
     exact⟨.inr ⟨HO.out,a,false,HR.out,HB.out.1,HB.out.2.2,_,_,by omega,by simp;omega,rfl⟩,hx.trans he1⟩
   ·go_wp2_with fail
    all_goals
     go_ret3
     exact⟨.inr ⟨HO.out,a,true,HR.out,HB.out.1,fun _=>HB.out.2.2 trivial,_,_,by omega,by simp;omega,rfl⟩,hx.trans he1⟩
 ·have HO:=A4 hok
  clear hok HG;go_wp2_with fail
  go_ret3
  exact⟨.inl ⟨er,her,rfl,fun h=>absurd h HO.out⟩,hx.trans he1⟩
theorem bY {n:Nat}{k key cnt arg:Int}{e:Ending}(h:Jw l n k key cnt arg e):
 (∃er:Int,(er !=0)=true∧e=.returned (.tuple #[.int .i64 0,.int .i64 0,.int .i64 er]))∨(∃lo hi:Int,0≤lo∧lo≤k∧k≤hi∧hi≤n∧e=.returned (.tuple #[.int .i64 lo,.int .i64 hi,.int .i64 0])):=by
 rcases h with⟨er,h1,h2,_⟩|⟨hok,a,i,_,ha,hi,lo,hi',h1,h2,h3⟩
 ·exact .inl ⟨er,h1,h2⟩
 ·obtain⟨_,b1,b2,_⟩:=hok
  refine .inr ⟨lo,hi',by omega,by omega,?_,?_,h3⟩
  ·rw[h2];split<;>omega
  ·rw[h2]
   split
   ·have:=hi ‹_›;omega
   ·omega
def tE (key:Int):Int:=if Lm key=true then Cn key else key
theorem kW {R:Int→Int→Int→Prop}(hnc:n≤c)(hcm:c≤maxLen)(hn:n≤4096)(hk:k=0∨k<n)(hkey:(key=119∧big=false)∨(key=87∧big=true))
 (HB:Hid (Calls Tryz.prog 137 #[.slice A n c,.int .i64 k,.bool ar,.bool big] (w.alloc (.cells #[.int .i64 0,.int .i64 0] 213)) fun e w'=>(∃x y er,R x y er∧e=.returned (.tuple #[.agg #[.int .i64 x,.int .i64 y],.int .i64 er]))∧Al (w.alloc (.cells #[.int .i64 0,.int .i64 0] 213)) w')):
 Calls Tryz.prog 123 #[.slice A n c,.int .i64 k,.bool ar,.int .i64 key] w fun e w'=>(∃x y er,R x y er∧e=.returned (.tuple #[.int .i64 x,.int .i64 y,.int .i64 er]))∧Al w w':=by
 have N0:=trivial;exact yJ
theorem vD {R:Int→Int→Int→Prop}(hnc:n≤c)(hcm:c≤maxLen)(hn:n≤4096)(hk:k=0∨k<n)(hkey:key=34∨key=39∨key=96)
 (HB:Hid (Calls Tryz.prog 139 #[.slice A n c,.int .i64 k,.bool ar,.int .i64 key] (w.alloc (.cells #[.int .i64 0,.int .i64 0] 213)) fun e w'=>(∃x y er,R x y er∧e=.returned (.tuple #[.agg #[.int .i64 x,.int .i64 y],.int .i64 er]))∧Al (w.alloc (.cells #[.int .i64 0,.int .i64 0] 213)) w')):
 Calls Tryz.prog 123 #[.slice A n c,.int .i64 k,.bool ar,.int .i64 key] w fun e w'=>(∃x y er,R x y er∧e=.returned (.tuple #[.int .i64 x,.int .i64 y,.int .i64 er]))∧Al w w':=by
 have N1:=trivial;exact yJ
theorem vF {R:Int→Int→Int→Prop}(hnc:n≤c)(hcm:c≤maxLen)(hn:n≤4096)(hk:k=0∨k<n)(hkey:key=40∨key=41∨key=91∨key=93∨key=123∨key=125)
 (HB:Hid (Calls Tryz.prog 138 #[.slice A n c,.int .i64 k,.bool ar,.int .i64 (tE key)] (w.alloc (.cells #[.int .i64 0,.int .i64 0] 213)) fun e w'=>(∃x y er,R x y er∧e=.returned (.tuple #[.agg #[.int .i64 x,.int .i64 y],.int .i64 er]))∧Al (w.alloc (.cells #[.int .i64 0,.int .i64 0] 213)) w')):
 Calls Tryz.prog 123 #[.slice A n c,.int .i64 k,.bool ar,.int .i64 key] w fun e w'=>(∃x y er,R x y er∧e=.returned (.tuple #[.int .i64 x,.int .i64 y,.int .i64 er]))∧Al w w':=by
 have N2:=trivial;exact yJ
def T5 (key:Int):Prop:=key≠119∧key≠87∧key≠34∧key≠39∧key≠96∧key≠40∧key≠41∧key≠91∧key≠93∧key≠123∧key≠125
theorem vE (hnc:n≤c)(hcm:c≤maxLen)(hn:n≤4096)(hk:k=0∨k<n)(hkey:T5 key):
 Calls Tryz.prog 123 #[.slice A n c,.int .i64 k,.bool ar,.int .i64 key] w fun e w'=>e=.returned (.tuple #[.int .i64 0,.int .i64 0,.int .i64 9])∧Al w w':=by
 unfold maxLen at hcm;have hm:(k:Int)≤max 0 ((n:Int)-1):=by omega
 obtain⟨h1,h2,h3,h4,h5,h6,h7,h8,h9,h10,h11⟩:=hkey;have b1:(key==119)=false:=by simpa using h1
 have b2:(key==87)=false:=by simpa using h2
 have b3:(key==34)=false:=by simpa using h3
 have b4:(key==39)=false:=by simpa using h4
 have b5:(key==96)=false:=by simpa using h5
 have b6:(key==40)=false:=by simpa using h6
 have b7:(key==41)=false:=by simpa using h7
 have b8:(key==91)=false:=by simpa using h8
 have b9:(key==93)=false:=by simpa using h9
 have b10:(key==123)=false:=by simpa using h10
 have b11:(key==125)=false:=by simpa using h11
 have he:=Al.alloc w (.cells #[.int .i64 0,.int .i64 0] 213);have hbf:=An.new w 213 #[.int .i64 0,.int .i64 0];have c6:=hbf.cell 0;have c7:=hbf.cell 1;simp only[List.getElem?_toArray,List.getElem?_cons_zero,List.getElem?_cons_succ]at c6 c7;clear h1 h2 h3 h4 h5 h6 h7 h8 h9 h10 h11 hbf;go_enter Tryz.func123,Tryz.ntmps123
 go_wp2_with fail
 all_goals
  go_quiet (fail)
  go_wp2_with fail
  go_ret3
  exact⟨rfl,he.to_drewN _⟩
theorem Y5 (hl:Bi w A n c l)(wl:∀x∈l,(Lit.int .i64 x).wf=true)(hn:n≤4096)(hk:k=0∨k<n):
 Calls Tryz.prog 138 #[.slice A n c,.int .i64 k,.bool true,.int .i64 o] w fun e w'=>((∃i b:Nat,Va l k o i b∧e=.returned (.tuple #[.agg #[.int .i64 i,.int .i64 ((b:Int)+1)],.int .i64 0]))∨
  (St l k o∧e=.returned (.tuple #[.agg #[.int .i64 0,.int .i64 0],.int .i64 6])))∧Al w w':=by
 have N0:=trivial;exact zU
def qs (l:List Int)(k:Nat)(q:Int):Nat→Int
 |0=>-1
 |j+1=>if gI l j≠q then qs l k q j else if qs l k q j<0 then j else -1
theorem tH (l:List Int)(k:Nat)(q:Int):∀j:Nat,-1≤qs l k q j∧qs l k q j<j
 |0=>by unfold qs;omega
 |j+1=>by
  have:=tH l k q j;unfold qs
  (repeat' split)<;>omega
def X3 (l:List Int)(k:Nat)(q:Int)(j:Nat):Prop:=gI l j=q∧0≤qs l k q j∧k≤j
def Qx (l:List Int)(k:Nat)(q:Int)(f t:Nat):Prop:=t<l.length∧X3 l k q t∧(∀j,j<t→¬X3 l k q j)∧qs l k q t=(f:Int)∧f<t
def pV (l:List Int)(k:Nat)(q:Int):Prop:=∀j,j<l.length→¬X3 l k q j
theorem dC {f t f' t':Nat}(h:Qx l k q f t)(h':Qx l k q f' t'):f=f'∧t=t':=by
 have e:t=t':=by
  rcases Nat.lt_trichotomy t t' with h1|h1|h1
  ·exact absurd h.2.1 (h'.2.2.1 t h1)
  ·exact h1
  ·exact absurd h'.2.1 (h.2.2.1 t' h1)
 subst e;have h1:=h.2.2.2.1;have h2:=h'.2.2.2.1;exact⟨by omega,rfl⟩
theorem Wb {f t:Nat}(h:Qx l k q f t):¬pV l k q:=fun h'=>h' t h.1 h.2.1
theorem gW (hl:Bi w A n c l)(hn:n≤4096):
 Calls Tryz.prog 139 #[.slice A n c,.int .i64 k,.bool ar,.int .i64 q] w fun e w'=>((∃f t:Nat,Qx l k q f t∧e=.returned (.tuple #[.agg #[.int .i64 (if ar=true then(f:Int)else(f:Int)+1),.int .i64 (if ar=true then(t:Int)+1 else(t:Int))],.int .i64 0]))∨
  (pV l k q∧e=.returned (.tuple #[.agg #[.int .i64 0,.int .i64 0],.int .i64 6])))∧Al w w':=by
 have hnc:=hl.ncap;have hcm:=hl.nmax;have hlen:=A4 hl.len;unfold maxLen at hcm;have he:=Al.alloc w (.cells #[.int .i64 0,.int .i64 0] 213);have hb0:=An.new w 213 #[.int .i64 0,.int .i64 0];have hl1:=hl.ext he;clear hl;go_enter Tryz.func139,Tryz.ntmps139
 go_wp2_with fail
 revert he hb0 hl1
 generalize w.alloc (.cells #[.int .i64 0,.int .i64 0] 213)=w1;intro he hb0 hl1;have f0:=hb0.frozen 0;have f1:=hb0.frozen 1;have c4:=hb0.cell 0;have c5:=hb0.cell 1;simp only[Ag,Ae,Af]at c4 c5;have HBF:Hid (∀x y:Int,An ((w1.setCell ⟨w.heap.size,0,none⟩ (.int .i64 x)).setCell ⟨w.heap.size,1,none⟩ (.int .i64 y)) w.heap.size 213 #[.int .i64 x,.int .i64 y]):=A4 (fun x y=>by
  simpa using(hb0.set_ 0 (.int .i64 x)).set_ 1 (.int .i64 y))
 have HEF:Hid (∀x y:Int,Al w ((w1.setCell ⟨w.heap.size,0,none⟩ (.int .i64 x)).setCell ⟨w.heap.size,1,none⟩ (.int .i64 y))):=A4 (fun x y=>(he.setCell (by simp) _).setCell (by simp) _)
 clear hb0;go_loopw [10,15] (fun fr v wr=>∃j:Nat,j≤n∧v=.int .i64 j∧fr=.int .i64 (qs l k q j)∧Hid (∀x,x<j→¬X3 l k q x)∧wr=w1) (fun _ v _=>n-(intOf v).toNat)
 case atStart=>exact⟨0,by omega,rfl,rfl,fun x h=>absurd h (by omega),rfl⟩
 case round=>
  obtain⟨j,hj,rfl,rfl,hall,rfl⟩:=hrel;obtain⟨q1,q2⟩:=tH l k q j;have HS:Hid (qs l k q (j+1)=if gI l j≠q then qs l k q j else if qs l k q j<0 then j else -1):=A4 rfl;have HN:Hid (¬X3 l k q j→∀x,x<j+1→¬X3 l k q x):=A4 (fun h x hx=>by
   rcases Nat.lt_or_ge x j with h3|h3
   ·exact hall.out x h3
   ·obtain rfl:x=j:=by omega
    exact h)
  by_cases hlt:j<n
  ·obtain⟨a1,rfl,hc⟩:=hl1.at_ hlt
   have d1:=hc j hlt;clear hc;by_cases hq:gI l j=q
   ·have b1:(gI l j !=q)=false:=by simpa using hq
    have HQ:=A4 hq;clear hq;by_cases hneg:qs l k q j<0
    ·have hh:Hid (¬X3 l k q j):=A4 (fun h=>by have:=h.2.1;omega)
     have HV:Hid (qs l k q (j+1)=j):=A4 (by rw[HS.out,if_neg (by simp[HQ.out]),if_pos hneg])
     exact I40
    ·by_cases hk:j<k
     ·have hh:Hid (¬X3 l k q j):=A4 (fun h=>by have:=h.2.2;omega)
      have HV:Hid (qs l k q (j+1) = -1):=A4 (by rw[HS.out,if_neg (by simp[HQ.out]),if_neg hneg])
      exact I40
     ·obtain⟨f,hf⟩:=Int.eq_ofNat_of_zero_le (show 0≤qs l k q j by omega)
      have HF:Hid (Qx l k q f j):=A4 ⟨by rw[hlen.out];exact hlt,⟨HQ.out,by omega,by omega⟩,hall.out,hf,by omega⟩
      rw[hf]at q1 q2 hneg ⊢;clear hf HS;rcases ar with _|_
      ·go_wp2_with fail
       have hbf:=HBF.out ((f:Int)+1) j;exact I26
      ·go_wp2_with fail
       have hbf:=HBF.out (f:Int) ((j:Int)+1);exact I26
   ·have b1:(gI l j !=q)=true:=by simpa using hq
    have hh:Hid (¬X3 l k q j):=A4 (fun h=>hq h.1)
    have HV:Hid (qs l k q (j+1)=qs l k q j):=A4 (by rw[HS.out,if_pos hq])
    clear hq;exact I40
  ·have HF:Hid (pV l k q):=A4 (fun x hx=>hall.out x (by rw[hlen.out]at hx;omega))
   go_wp2_with fail
   all_goals
    have hbf:=HBF.out 0 0;have c6:=hbf.cell 0;have c7:=hbf.cell 1;simp only[Ag,Ae,Af]at c6 c7;clear c4 c5 f0 f1 hbf;refine bodyPost_ret (by simp[results,Tryz.results139,go_sem,c6,c7];try rfl) rfl ?_
    exact⟨.inr ⟨HF.out,rfl⟩,HEF.out _ _⟩
theorem An.keepCell2 {g t:Nat}{cs:Array Value}(h:An w g t cs){p:Addr}(hp:p.block≠g)(u:Value):An (w.setCell p u) g t cs:=by
 exact I99
theorem Gx (c:Int)(big:Bool)(w:World):Calls Tryz.prog 118 #[.int .i64 c,.bool big] w fun e w'=>e=.returned (.int .i64 (Bf c big))∧w=w':=
 (Tf c big w).mono fun _ _ ⟨h1,h2⟩=>⟨h1,h2.symm⟩
def Yj (w:World)(p:Addr):Nat:=match w.cell? p with|some v=>(intOf v).toNat|none=>0
theorem Mr {p:Addr}{x:Nat}(h:w.cell? p=some (.int .i64 x)):Yj w p=x:=by unfold Yj;rw[h];simp[intOf]
theorem Kg (hl:Bi w A n c l)(hn:n≤4096)(hk:k<n):
 Calls Tryz.prog 147 #[.slice A n c,.int .i64 k,.bool big] w fun e w'=>e=.returned (.agg #[.int .i64 (Ga l big (Au l big k) k),.int .i64 (Eg l big (Au l big k) k)])∧Al w w':=by
 have hnc:=hl.ncap;have hcm:=hl.nmax;have hlen:=A4 hl.len;unfold maxLen at hcm;obtain⟨a1,rfl,hc⟩:=hl.at_ hk;have HC:=A4 hc;have hx0:Al w ((w.alloc (.cells #[.int .i64 0,.int .i64 0] 213)).alloc (.cells #[.int .i64 k,.int .i64 k] 213)):=(Al.alloc _ _).to_alloc _;have d0:=hx0.cell (hc k hk);have hb1:=(An.new w 213 #[.int .i64 0,.int .i64 0]).ext (Al.alloc _ (.cells #[.int .i64 k,.int .i64 k] 213));have hb2:An ((w.alloc (.cells #[.int .i64 0,.int .i64 0] 213)).alloc (.cells #[.int .i64 k,.int .i64 k] 213)) (w.heap.size+1) 213 #[.int .i64 k,.int .i64 k]:=by
  simpa using An.new (w.alloc (.cells #[.int .i64 0,.int .i64 0] 213)) 213 #[.int .i64 k,.int .i64 k]
 have hkk:Hid (Au l big k=Bf (gI l k) big):=Ft (by rw[hlen.out];exact hk)
 have HIN:Hid (∀j:Nat,j<n→Au l big j=Bf (gI l j) big):=A4 (fun j hj=>Ft (by rw[hlen.out];exact hj))
 clear hc;go_enter Tryz.func147,Tryz.ntmps147
 go_wp2_with fail
 refine(Gx _ _ _).mono ?_
 rintro e w1 ⟨rfl,rfl⟩;clear d0;go_wp2_with fail
 go_loopw [] (fun wr=>∃f:Nat,f≤k∧Hid (∀x:Nat,f≤x→x<k→Au l big x=Au l big k)∧An wr w.heap.size 213 #[.int .i64 0,.int .i64 0]∧An wr (w.heap.size+1) 213 #[.int .i64 f,.int .i64 k]∧Al w wr) (fun wr=>Yj wr ⟨w.heap.size+1,0,none⟩)
 case atStart=>exact⟨k,Ai _,fun x h1 h2=>absurd h2 (by omega),hb1,hb2,hx0⟩
 case round=>
  clear hb1 hb2 hx0;obtain⟨f,hf,hall,hb1,hb2,he⟩:=hrel;have c0:=hb2.cell 0;have c1:=hb2.cell 1;have f0:=hb2.frozen 0;have f1:=hb2.frozen 1;simp only[Ag,Ae,Af]at c0 c1;have HM:=A4 (Mr c0);rcases Nat.eq_zero_or_pos f with h0|h0
  ·have HL:Hid (f=0∨Au l big ((f:Int)-1)≠Au l big k):=A4 (.inl h0)
   subst h0;have c0z:wr.cell? ⟨w.heap.size+1,0,none⟩=some (.int .i64 0):=c0;clear c0;have c0:=c0z;clear c0z;have HFL:Hid (Ga l big (Au l big k) k=0):=A4 (Xj hf hall.out HL.out);go_wp2_with fail
   clear c0 c1 f0 f1;go_loopw [] (fun wr=>∃t:Nat,k≤t∧t≤n∧Hid (∀x:Nat,k≤x→x<t→Au l big x=Au l big k)∧An wr w.heap.size 213 #[.int .i64 0,.int .i64 0]∧An wr (w.heap.size+1) 213 #[.int .i64 ((0:Nat):Int),.int .i64 t]∧Al w wr) (fun wr=>n-Yj wr ⟨w.heap.size+1,1,none⟩)
   case atStart=>exact⟨k,Ai _,by omega,fun x h1 h2=>absurd h2 (by omega),hb1,hb2,he⟩
   case round=>
    clear hb1 hb2 he;obtain⟨t,ht1,ht2,hall2,hb1,hb2,he⟩:=hrel;have c0:=hb2.cell 0;have c1:=hb2.cell 1;have f1:=hb2.frozen 1;simp only[Ag,Ae,Af]at c0 c1;have HM:=A4 (Mr c1);by_cases hlt:t<n
    ·have N0:=trivial;exact zP
    ·have N0:=trivial;exact zK
  ·obtain⟨g,rfl⟩:∃g,f=g+1:=⟨f-1,by omega⟩
   have hgn:g<n:=by omega
   have d1:=he.cell (HC.out g hgn);by_cases heq:Bf (gI l g) big=Bf (gI l k) big
   ·have b1:(Bf (gI l g) big==Bf (gI l k) big)=true:=by simpa using heq
    have HQ:Hid (Au l big g=Au l big k):=A4 (by rw[HIN.out g hgn,hkk.out];exact heq)
    clear heq;go_wp2_with fail
    refine(Gx _ _ _).mono ?_
    rintro e w2 ⟨rfl,rfl⟩;go_wp2_with fail
    have hb3:An (wr.setCell ⟨w.heap.size+1,0,none⟩ (.int .i64 (g:Int))) (w.heap.size+1) 213 #[.int .i64 g,.int .i64 k]:=by
     simpa using hb2.set_ 0 (.int .i64 (g:Int))
    have c2:=hb3.cell 0;simp only[Ag,Ae,Af]at c2;refine⟨⟨g,by omega,fun x h1 h2=>?_,hb1.keepCell2 (by simp) _,hb3,he.setCell (by simp) _⟩,?_⟩
    ·rcases Nat.lt_or_ge g x with h3|h3
     ·exact hall.out x h3 h2
     ·obtain rfl:x=g:=by omega
      exact HQ.out
    ·rw[Mr c2,HM.out];omega
   ·have b1:(Bf (gI l g) big==Bf (gI l k) big)=false:=by simpa using heq
    have HL:Hid (g+1=0∨Au l big (((g+1:Nat):Int)-1)≠Au l big k):=A4 (.inr (by rw[show(((g+1:Nat):Int)-1)=(g:Int)by omega,HIN.out g hgn,hkk.out];exact heq))
    clear heq;have HFL:Hid (Ga l big (Au l big k) k=g+1):=A4 (Xj hf hall.out HL.out);go_wp2_with fail
    refine(Gx _ _ _).mono ?_
    rintro e w2 ⟨rfl,rfl⟩;go_wp2_with fail
    clear c0 c1 f0 f1;go_loopw [] (fun wr=>∃t:Nat,k≤t∧t≤n∧Hid (∀x:Nat,k≤x→x<t→Au l big x=Au l big k)∧An wr w.heap.size 213 #[.int .i64 0,.int .i64 0]∧An wr (w.heap.size+1) 213 #[.int .i64 ((g+1:Nat):Int),.int .i64 t]∧Al w wr) (fun wr=>n-Yj wr ⟨w.heap.size+1,1,none⟩)
    case atStart=>exact⟨k,Ai _,by omega,fun x h1 h2=>absurd h2 (by omega),hb1,hb2,he⟩
    case round=>
     clear hb1 hb2 he;obtain⟨t,ht1,ht2,hall2,hb1,hb2,he⟩:=hrel;have c0:=hb2.cell 0;have c1:=hb2.cell 1;have f1:=hb2.frozen 1;simp only[Ag,Ae,Af]at c0 c1;have HM:=A4 (Mr c1);by_cases hlt:t<n
     ·have N1:=trivial;exact zP
     ·have N1:=trivial;exact zK
def Di (l:List Int)(k:Nat)(big:Bool):Nat:=Ga l big (Au l big k) k
def Cb (l:List Int)(k:Nat)(big:Bool):Nat:=Eg l big (Au l big k) k
theorem Jv (hk:k<l.length):Di l k big≤k∧k<Cb l k big∧Cb l k big≤l.length∧∀x:Nat,Di l k big≤x→x<Cb l k big→Au l big x=Au l big k:=by
 unfold Di Cb;have h0:0≤Au l big k:=by rw[Ft hk];exact(Le _ _).1
 obtain⟨a1,a2,a3⟩:=J2 (l:=l) (big:=big) (kind:=Au l big k) k;obtain⟨b1,b2,b3,b4⟩:=F7 (l:=l) (big:=big) (kind:=Au l big k) h0 k;have hne:Eg l big (Au l big k) k≠k:=fun e=>b3 (by rw[e])
 refine⟨a1,by omega,by omega,fun x h1 h2=>?_⟩
 rcases At x k with h|h
 ·exact a2 x h1 h
 ·exact b2 x h h2
theorem lK (hl:Bi w A n c l)(hn:n≤4096)(hk:k<n):
 Calls Tryz.prog 137 #[.slice A n c,.int .i64 k,.bool false,.bool big] w fun e w'=>e=.returned (.tuple #[.agg #[.int .i64 (Di l k big),.int .i64 (Cb l k big)],.int .i64 0])∧Al w w':=by
 have hnc:=hl.ncap;have hcm:=hl.nmax;have z1:((n:Int)==0)=false:=by simp;omega
 unfold maxLen at hcm;have hx:=Al.alloc w (.cells #[.int .i64 0,.int .i64 0] 213);have hb0:=An.new w 213 #[.int .i64 0,.int .i64 0];have HR:=A4 (Kg (big:=big) (hl.ext hx) hn hk);clear hl;go_enter Tryz.func137,Tryz.ntmps137
 go_wp2_with fail
 refine HR.out.mono ?_
 rintro e w1 ⟨rfl,he1⟩;have hq:=(hb0.ext he1).ext (Al.alloc _ (.cells #[.int .i64 (Di l k big),.int .i64 (Cb l k big)] 213));have hef:=(hx.trans he1).to_alloc (.cells #[.int .i64 (Di l k big),.int .i64 (Cb l k big)] 213);have f0:=hq.frozen 0;have f1:=hq.frozen 1;have c4:=hq.cell 0;have c5:=hq.cell 1;simp only[Ag,Ae,Af]at c4 c5;clear HR hb0 hx he1;rw[show Ga l big (Au l big k) k=Di l k big from rfl,show Eg l big (Au l big k) k=Cb l k big from rfl]
 go_wp2_with fail
 have hbf:An (((w1.alloc (.cells #[.int .i64 (Di l k big),.int .i64 (Cb l k big)] 213)).setCell ⟨w.heap.size,0,none⟩ (.int .i64 (Di l k big))).setCell ⟨w.heap.size,1,none⟩ (.int .i64 (Cb l k big))) w.heap.size 213 #[.int .i64 (Di l k big),.int .i64 (Cb l k big)]:=by
  exact I107
 have c6:=hbf.cell 0;have c7:=hbf.cell 1;simp only[Ag,Ae,Af]at c6 c7;clear c4 c5 f0 f1 hbf;refine bodyPost_ret (by simp[results,Tryz.results137,go_sem,c6,c7];try rfl) rfl ?_
 exact⟨rfl,(hef.setCell (by simp) _).setCell (by simp) _⟩
def Wu (l:List Int)(k:Nat)(big:Bool):Nat×Nat:=
 if Cb l k big<l.length∧(Au l big k=0∨Au l big (Cb l k big)=0)then(Di l k big,Cb l (Cb l k big) big)
 else if Au l big k≠0∧0<Di l k big∧Au l big (Di l k big-1:Nat)=0 then(Di l (Di l k big-1) big,Cb l k big)
 else(Di l k big,Cb l k big)
theorem Vg (hk:k<l.length):(Wu l k big).1≤Di l k big∧Cb l k big≤(Wu l k big).2∧(Wu l k big).2≤l.length:=by
 obtain⟨a1,a2,a3,a4⟩:=Jv (big:=big) hk;unfold Wu;split
 ·rename_i h
  obtain⟨b1,b2,b3,b4⟩:=Jv (big:=big) h.1;exact⟨Ai _,by show Cb l k big≤Cb l (Cb l k big) big;omega,b3⟩
 ·split
  ·rename_i h
   obtain⟨b1,b2,b3,b4⟩:=Jv (l:=l) (k:=Di l k big-1) (big:=big) (by omega)
   exact⟨by show Di l (Di l k big-1) big≤Di l k big;omega,Ai _,a3⟩
  ·exact⟨Ai _,Ai _,a3⟩
theorem Zu (a b:Value)(u:World):(Instr.field 213 (.agg #[a,b]) 0).run Tryz.prog u=.ok a u:=by kernel_rfl
theorem Rw (a b:Value)(u:World):(Instr.field 213 (.agg #[a,b]) 1).run Tryz.prog u=.ok b u:=by kernel_rfl
theorem fP (hl:Bi w A n c l)(hn:n≤4096)(hk:k<n):
 Calls Tryz.prog 137 #[.slice A n c,.int .i64 k,.bool true,.bool big] w fun e w'=>e=.returned (.tuple #[.agg #[.int .i64 (Wu l k big).1,.int .i64 (Wu l k big).2],.int .i64 0])∧Al w w':=by
 have hnc:=hl.ncap;have hcm:=hl.nmax;have hlen:=A4 hl.len;have z1:((n:Int)==0)=false:=by simp;omega
 unfold maxLen at hcm;have hx:=Al.alloc w (.cells #[.int .i64 0,.int .i64 0] 213);have hb0:=An.new w 213 #[.int .i64 0,.int .i64 0];have HR:=A4 (Kg (big:=big) (hl.ext hx) hn hk);obtain⟨a1,a2,a3,-⟩:=Jv (l:=l) (k:=k) (big:=big) (by rw[hlen.out];exact hk)
 rw[hlen.out]at a3;obtain⟨ad,rfl,hc⟩:=hl.at_ hk;have HC:=A4 hc;have hkk:Hid (Au l big k=Bf (gI l k) big):=Ft (by rw[hlen.out];exact hk)
 have HIN:Hid (∀j:Nat,j<n→Au l big j=Bf (gI l j) big):=A4 (fun j hj=>Ft (by rw[hlen.out];exact hj))
 clear hc;go_enter Tryz.func137,Tryz.ntmps137
 go_wp2_with fail
 refine HR.out.mono ?_
 rintro e w1 ⟨rfl,he1⟩;have hT:=Al.alloc w1 (.cells #[.int .i64 (Di l k big),.int .i64 (Cb l k big)] 213);have hq:=(hb0.ext he1).ext hT;have hr:=An.new w1 213 #[.int .i64 (Di l k big),.int .i64 (Cb l k big)];have hef:=(hx.trans he1).trans hT;have hlX:=hl.ext hef;have hw1:w.heap.size<w1.heap.size:=(hb0.ext he1).lt;have d1:=hef.cell (HC.out k hk);clear HR hb0 hx he1 hl;rw[show Ga l big (Au l big k) k=Di l k big from rfl,show Eg l big (Au l big k) k=Cb l k big from rfl]
 go_wp2_with fail
 revert hT hq hr hef hlX d1
 generalize w1.alloc (.cells #[.int .i64 (Di l k big),.int .i64 (Cb l k big)] 213)=w2;intro hT hq hr hef hlX d1;refine(Gx _ _ _).mono ?_
 rintro e w3 ⟨rfl,rfl⟩;clear d1;have c0:=hr.cell 0;have c1:=hr.cell 1;simp only[Ag,Ae,Af]at c0 c1;rcases At (Cb l k big) n with hlt|hge
 ·have dT:=hef.cell (HC.out _ hlt)
  by_cases hbl:Bf (gI l k) big=0
  ·have b1:(Bf (gI l k) big==0)=true:=by simpa using hbl
   have HW:Hid (Wu l k big=(Di l k big,Cb l (Cb l k big) big)):=A4 (by unfold Wu;rw[if_pos ⟨by rw[hlen.out];exact hlt,.inl (by rw[hkk.out];exact hbl)⟩])
   clear hbl;go_wp2_with fail
   refine(Kg (k:=(Cb l k big)) (big:=big) hlX hn hlt).mono ?_
   rintro e w3 ⟨rfl,he3⟩;rw[show Ga l big (Au l big ((Cb l k big):Nat)) (Cb l k big)=Di l (Cb l k big) big from rfl,show Eg l big (Au l big ((Cb l k big):Nat)) (Cb l k big)=Cb l (Cb l k big) big from rfl]
   have hq3:=hq.ext he3;have hr3:=hr.ext he3;have hef3:=hef.trans he3;have g0:=hr3.frozen 1;have e0:=hr3.cell 0;have e1:=hr3.cell 1;have f0:=hq3.frozen 0;have f1:=hq3.frozen 1;have c4:=hq3.cell 0;have c5:=hq3.cell 1;simp only[Ag,Ae,Af]at c4 c5 e0 e1;clear c0 c1;have n1:¬w1.heap.size=w.heap.size:=by omega
   have n2:¬w.heap.size=w1.heap.size:=by omega
   have hfd:=Rw (.int .i64 (Di l (Cb l k big) big)) (.int .i64 (Cb l (Cb l k big) big)) w3;go_wp2_with fail
   have hbf:An (((w3.setCell ⟨w1.heap.size,1,none⟩ (.int .i64 (Cb l (Cb l k big) big))).setCell ⟨w.heap.size,0,none⟩ (.int .i64 (Di l k big))).setCell ⟨w.heap.size,1,none⟩ (.int .i64 (Cb l (Cb l k big) big))) w.heap.size 213 #[.int .i64 (Di l k big),.int .i64 (Cb l (Cb l k big) big)]:=by
    exact I48
   have c6:=hbf.cell 0;have c7:=hbf.cell 1;simp only[Ag,Ae,Af]at c6 c7;clear c4 c5 f0 f1 e0 e1 g0 hfd hbf;refine bodyPost_ret (by simp[results,Tryz.results137,go_sem,c6,c7];try rfl) rfl ?_
   exact⟨by rw[HW.out]<;>rfl,((hef3.setCell (p:=⟨w1.heap.size,1,none⟩) (Nat.le_of_lt hw1) _).setCell (by simp) _).setCell (by simp) _⟩
  ·have N0:=trivial;exact zW
 ·have N1:=trivial;exact zW
def wW (l:List Int)(k:Nat)(ar big:Bool)(x y er:Int):Prop:=
 (k<l.length∧er=0∧x=(if ar=true then(Wu l k big).1 else Di l k big:Nat)∧y=(if ar=true then(Wu l k big).2 else Cb l k big:Nat))∨(l.length=0∧er=6∧x=0∧y=0)
def xZ (l:List Int)(k:Nat)(ar:Bool)(o:Int)(x y er:Int):Prop:=
 (∃i b:Nat,Va l k o i b∧er=0∧x=(if ar=true then(i:Int)else(i:Int)+1)∧y=(if ar=true then(b:Int)+1 else b))∨(St l k o∧er=6∧x=0∧y=0)
def xY (l:List Int)(k:Nat)(ar:Bool)(q:Int)(x y er:Int):Prop:=
 (∃f t:Nat,Qx l k q f t∧er=0∧x=(if ar=true then(f:Int)else(f:Int)+1)∧y=(if ar=true then(t:Int)+1 else t))∨(pV l k q∧er=6∧x=0∧y=0)
theorem iU {i b i' b':Nat}(h:Va l k o i b)(h':Va l k o i' b'):i=i'∧b=b':=by
 obtain⟨h1,h2,h3,h4,h5,h6,h7⟩:=h;obtain⟨g1,g2,g3,g4,g5,g6,g7⟩:=h';have e:i=i':=by
  rcases Nat.lt_trichotomy i i' with h|h|h
  ·have:=h7 i' h g1 g2 g3;omega
  ·exact h
  ·have:=g7 i h h1 h2 h3;omega
 subst e;exact⟨rfl,by omega⟩
theorem Vz {i b:Nat}(h:Va l k o i b):¬St l k o:=fun h'=>by
 obtain⟨h1,h2,h3,h4,h5,h6,h7⟩:=h;have:=h' i h1 h2 h3;omega
theorem aZ {c:Nat}{ar big:Bool}:
 Calls Tryz.prog 137 #[.slice A 0 c,.int .i64 k,.bool ar,.bool big] w fun e w'=>e=.returned (.tuple #[.agg #[.int .i64 0,.int .i64 0],.int .i64 6])∧Al w w':=by
 have hx:=Al.alloc w (.cells #[.int .i64 0,.int .i64 0] 213);have hq:=An.new w 213 #[.int .i64 0,.int .i64 0];have hbf:An (((w.alloc (.cells #[.int .i64 0,.int .i64 0] 213)).setCell ⟨w.heap.size,0,none⟩ (.int .i64 0)).setCell ⟨w.heap.size,1,none⟩ (.int .i64 0)) w.heap.size 213 #[.int .i64 0,.int .i64 0]:=by
  simpa using(hq.set_ 0 (.int .i64 0)).set_ 1 (.int .i64 0)
 have c6:=hbf.cell 0;have c7:=hbf.cell 1;simp only[List.getElem?_toArray,List.getElem?_cons_zero,List.getElem?_cons_succ]at c6 c7;clear hbf hq;go_enter Tryz.func137,Tryz.ntmps137
 go_wp2_with fail
 refine bodyPost_ret (by simp[results,Tryz.results137,go_sem,c6,c7];try rfl) rfl ?_
 first
  |exact⟨rfl,hx⟩
  |exact⟨rfl,(hx.setCell (by simp) _).setCell (by simp) _⟩
def kF (l:List Int)(k:Nat)(ar:Bool)(key:Int)(x y er:Int):Prop:=
 (key=119∧wW l k ar false x y er)∨(key=87∧wW l k ar true x y er)∨((key=34∨key=39∨key=96)∧xY l k ar key x y er)∨
  ((key=40∨key=41∨key=91∨key=93∨key=123∨key=125)∧xZ l k ar (tE key) x y er)∨(T5 key∧x=0∧y=0∧er=9)
theorem Vf {ar big:Bool}(hl:Bi w A n c l)(hn:n≤4096)(hk:k=0∨k<n):
 Calls Tryz.prog 137 #[.slice A n c,.int .i64 k,.bool ar,.bool big] w fun e w'=>(∃x y er,wW l k ar big x y er∧e=.returned (.tuple #[.agg #[.int .i64 x,.int .i64 y],.int .i64 er]))∧Al w w':=by
 have hlen:=hl.len;rcases Nat.eq_zero_or_pos n with h0|h0
 ·subst h0
  exact aZ.mono fun e w' ⟨h1,h2⟩=>⟨⟨0,0,6,.inr ⟨hlen,rfl,rfl,rfl⟩,h1⟩,h2⟩
 ·cases ar with
  |false=>exact(lK hl hn (by omega)).mono fun e w' ⟨h1,h2⟩=>⟨⟨_,_,0,.inl ⟨by omega,rfl,by simp,by simp⟩,h1⟩,h2⟩
  |true=>exact(fP hl hn (by omega)).mono fun e w' ⟨h1,h2⟩=>⟨⟨_,_,0,.inl ⟨by omega,rfl,by simp,by simp⟩,h1⟩,h2⟩
theorem Y4 (hl:Bi w A n c l)(wl:∀x∈l,(Lit.int .i64 x).wf=true)(hn:n≤4096)(hk:k=0∨k<n):
 Calls Tryz.prog 138 #[.slice A n c,.int .i64 k,.bool ar,.int .i64 o] w fun e w'=>(∃x y er,xZ l k ar o x y er∧e=.returned (.tuple #[.agg #[.int .i64 x,.int .i64 y],.int .i64 er]))∧Al w w':=by
 cases ar with
 |false=>exact(aE hl wl hn hk).mono fun e w' ⟨h1,h2⟩=>⟨by
  rcases h1 with⟨i,b,h,e⟩|⟨h,e⟩
  ·exact I119
  ·exact⟨0,0,6,.inr ⟨h,rfl,rfl,rfl⟩,e⟩,h2⟩
 |true=>exact(Y5 hl wl hn hk).mono fun e w' ⟨h1,h2⟩=>⟨by
  rcases h1 with⟨i,b,h,e⟩|⟨h,e⟩
  ·exact I119
  ·exact⟨0,0,6,.inr ⟨h,rfl,rfl,rfl⟩,e⟩,h2⟩
theorem bZ (hl:Bi w A n c l)(hn:n≤4096):
 Calls Tryz.prog 139 #[.slice A n c,.int .i64 k,.bool ar,.int .i64 q] w fun e w'=>(∃x y er,xY l k ar q x y er∧e=.returned (.tuple #[.agg #[.int .i64 x,.int .i64 y],.int .i64 er]))∧Al w w':=
 (gW hl hn).mono fun e w' ⟨h1,h2⟩=>⟨by
  rcases h1 with⟨f,t,h,e⟩|⟨h,e⟩
  ·exact⟨_,_,0,.inl ⟨f,t,h,rfl,rfl,rfl⟩,e⟩
  ·exact⟨0,0,6,.inr ⟨h,rfl,rfl,rfl⟩,e⟩,h2⟩
theorem Vs (hl:Bi w A n c l)(wl:∀x∈l,(Lit.int .i64 x).wf=true)(hn:n≤4096)(hk:k=0∨k<n):
 Calls Tryz.prog 123 #[.slice A n c,.int .i64 k,.bool ar,.int .i64 key] w fun e w'=>(∃x y er,kF l k ar key x y er∧e=.returned (.tuple #[.int .i64 x,.int .i64 y,.int .i64 er]))∧Al w w':=by
 have hx:=Al.alloc w (.cells #[.int .i64 0,.int .i64 0] 213);by_cases h1:key=119
 ·exact(kW (big:=false) hl.ncap hl.nmax hn hk (.inl ⟨h1,rfl⟩) (A4 (Vf (hl.ext hx) hn hk))).mono fun e w' ⟨⟨x,y,er,h2,h3⟩,h4⟩=>⟨⟨x,y,er,.inl ⟨h1,h2⟩,h3⟩,h4⟩
 by_cases h2:key=87
 ·exact(kW (big:=true) hl.ncap hl.nmax hn hk (.inr ⟨h2,rfl⟩) (A4 (Vf (hl.ext hx) hn hk))).mono fun e w' ⟨⟨x,y,er,h3,h4⟩,h5⟩=>⟨⟨x,y,er,.inr (.inl ⟨h2,h3⟩),h4⟩,h5⟩
 by_cases h3:key=34∨key=39∨key=96
 ·exact(vD hl.ncap hl.nmax hn hk h3 (A4 (bZ (hl.ext hx) hn))).mono fun e w' ⟨⟨x,y,er,h4,h5⟩,h6⟩=>⟨⟨x,y,er,.inr (.inr (.inl ⟨h3,h4⟩)),h5⟩,h6⟩
 by_cases h4:key=40∨key=41∨key=91∨key=93∨key=123∨key=125
 ·exact(vF hl.ncap hl.nmax hn hk h4 (A4 (Y4 (hl.ext hx) wl hn hk))).mono fun e w' ⟨⟨x,y,er,h5,h6⟩,h7⟩=>⟨⟨x,y,er,.inr (.inr (.inr (.inl ⟨h4,h5⟩))),h6⟩,h7⟩
 have hno:T5 key:=by unfold T5;omega
 exact(vE hl.ncap hl.nmax hn hk hno).mono fun e w' ⟨h5,h6⟩=>⟨⟨0,0,9,.inr (.inr (.inr (.inr ⟨hno,rfl,rfl,rfl⟩))),h5⟩,h6⟩
end
