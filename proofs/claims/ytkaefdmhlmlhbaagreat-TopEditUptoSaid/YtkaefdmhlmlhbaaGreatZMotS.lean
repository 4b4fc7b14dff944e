/-
  Part ZMotS.
-/
import Derived.Test.YtkaefdmhlmlhbaaGreatZMapV
import Derived.IntWalk
set_option maxRecDepth 100000
set_option maxHeartbeats 16000000
set_option linter.unusedVariables false
set_option linter.unusedSimpArgs false
namespace Go.Proofs.YtkaefdmhlmlhbaaGreat
open Go.RowKit
open _root_.Nat renaming eq_zero_or_pos→Bo,le_refl→Aj,lt_or_ge→Ay,ne_of_gt→J2v
open _root_.List renaming getElem?_cons_succ→Ag,getElem?_cons_zero→Af,getElem?_toArray→Ah
section
variable {A:Option Addr}{w:World}{n c k:Nat}{l:List Int}{R:Option (Nat×Bool)→Prop}{key arg o q:Int}{op ar big:Bool}
theorem rT (args:Array Value)(w:World):Sem.run Tryz.prog (callFunc 180 args) w=.ok (.enter 180 args) w:=rfl
theorem rU (args:Array Value)(w:World):Sem.run Tryz.prog (callFunc 133 args) w=.ok (.enter 133 args) w:=rfl
theorem wD (args:Array Value)(w:World):Sem.run Tryz.prog (callFunc 181 args) w=.ok (.enter 181 args) w:=rfl
section
variable {l:List Int} {A:Option Addr} {n c:Nat} {k g:Nat} {op big:Bool} {w:World}
theorem Vh (hl:Bl w A n c l)(hn:n≤4096)(hk:k≤n)(hg2:g≤4096)(w1:World)(he:An w w1):
 Calls Tryz.prog 170 #[.agg #[.slice A n c,.int .i64 k,.int .i64 g,.bool op],.func (.func 180) #[] #[],.bool big] w1 fun e w'=>e=.returned (.int .i64 (Q8 (G7 l · big) g k))∧An w1 w':=
 Us (s:=(G7 l · big)) (hl.ext he) hn hk hg2 (A6 rT) (A6 (fun j hj=>by have:=Ro (l:=l) (k:=j) (big:=big) (by rw[hl.len];exact hj);rw[hl.len]at this;exact this)) (A6 fun w2 j hj h2=>oO h2 hn hj)
theorem Vi (hl:Bl w A n c l)(hn:n≤4096)(hk:k≤n)(hg2:g≤4096)(w1:World)(he:An w w1):
 Calls Tryz.prog 170 #[.agg #[.slice A n c,.int .i64 k,.int .i64 g,.bool op],.func (.func 133) #[] #[],.bool big] w1 fun e w'=>e=.returned (.int .i64 (Q8 (Gb l · big) g k))∧An w1 w':=
 Us (s:=(Gb l · big)) (hl.ext he) hn hk hg2 (A6 rU) (A6 (fun j hj=>Nat.le_trans (Mj (by rw[hl.len];exact hj)) hj)) (A6 fun w2 j hj h2=>aF h2 hn hj)
theorem Xc (hl:Bl w A n c l)(hn:n≤4096)(hk:k≤n)(hg2:g≤4096)(w1:World)(he:An w w1):
 Calls Tryz.prog 170 #[.agg #[.slice A n c,.int .i64 k,.int .i64 g,.bool op],.func (.func 181) #[] #[],.bool big] w1 fun e w'=>e=.returned (.int .i64 (Q8 (Cu l · big) g k))∧An w1 w':=
 Us (s:=(Cu l · big)) (hl.ext he) hn hk hg2 (A6 wD) (A6 (fun j hj=>by have:=iQ (l:=l) (k:=j) (big:=big) (by rw[hl.len];exact hj);rw[hl.len]at this;exact this)) (A6 fun w2 j hj h2=>tW h2 hn hj)
theorem J4 {P:Program}{f:FuncId}{args:Array Value}{R:Option (Nat×Bool)→Prop}{o:Option (Nat×Bool)}(h:Calls P f args w fun e w'=>e=Ds o∧An w w')(ho:R o):
 Calls P f args w fun e w'=>(∃o,R o∧e=Ds o)∧An w w':=h.mono fun _ _ ⟨h1,h2⟩=>⟨⟨o,ho,h1⟩,h2⟩
theorem kO {key:Int}(hl:Bl w A n c l)(wl:∀x∈l,(Lit.int .i64 x).wf=true)(hn:n≤4096)(hk:k≤n)(hg1:1≤g)(hg2:g≤4096)(hkey:Ko key=true):
 Calls Tryz.prog 146 #[.agg #[.slice A n c,.int .i64 k,.int .i64 g,.bool op],.int .i64 key] w fun e w'=>(∃o,Ce l k key g op o∧e=Ds o)∧An w w':=by
 have hnc:=hl.ncap;have hcm:=hl.nmax;have hlen:=hl.len;have hX1:∀big,Q8 (G7 l · big) g k≤n:=fun big=>by rw[←hlen];exact Mq (fun k hk=>Ro hk) g (by omega)
 have hX2:∀big,Q8 (Cu l · big) g k≤n:=fun big=>by rw[←hlen];exact Mq (fun k hk=>iQ hk) g (by omega)
 unfold Ko at hkey;rw[decide_eq_true_eq]at hkey;rcases hkey with rfl|rfl|rfl|rfl|rfl|rfl|rfl|rfl|rfl|rfl|rfl|rfl|rfl
 ·skip
  rcases Bo k with h0|h0
  ·exact J4 (R:=Ce l k _ g op) (J1n (l:=l) hnc hcm hn hk hg1 hg2 h0) (by simp[Ce,Ei,h0])
  ·exact J4 (R:=Ce l k _ g op) (J1m (l:=l) hnc hcm hn hk hg1 hg2 h0) (by simp[Ce,Ei,J2v h0])
 ·skip
  exact J4 (R:=Ce l k _ g op) (zM (l:=l) hnc hcm hn hk hg1 hg2 (A6 fun w1 _=>Za hnc hcm hn hk hg1 hg2)) (by simp[Ce,Ei,hlen])
 ·skip
  exact J4 (R:=Ce l k _ g op) (J2l (l:=l) hnc hcm hn hk hg1 hg2) (by simp[Ce,Ei])
 ·skip
  exact J4 (R:=Ce l k _ g op) (J1p (l:=l) hnc hcm hn hk hg1 hg2 (A6 fun w1 he=>rN (hl.ext he) hn)) (by simp[Ce,Ei])
 ·skip
  rcases Bo n with h0|h0
  ·exact J4 (R:=Ce l k _ g op) (zJ (l:=l) hnc hcm hn hk hg1 hg2 h0) (by simp[Ce,Ei,hlen,h0])
  ·exact J4 (R:=Ce l k _ g op) (J1u (l:=l) hnc hcm hn hk hg1 hg2 h0) (by simp[Ce,Ei,hlen,J2v h0])
 ·skip
  rcases Bo n with h0|h0
  ·exact J4 (R:=Ce l k _ g op) (uM (l:=l) hnc hcm hn hk hg1 hg2 h0) (by simp[Ce,Ei,hlen,h0])
  ·exact J4 (R:=Ce l k _ g op) (zK (l:=l) hnc hcm hn hk hg1 hg2 h0) (by simp[Ce,Ei,hlen,J2v h0])
 ·skip
  rcases Bo n with h0|h0
  ·exact J4 (R:=Ce l k _ g op) (uN (l:=l) hnc hcm hn hk hg1 hg2 h0) (by simp[Ce,Ei,hlen,h0])
  ·exact J4 (R:=Ce l k _ g op) (zL (l:=l) hnc hcm hn hk hg1 hg2 h0 (A6 fun w1 he=>aE hnc hcm hn hk h0 (hX1 _) (A6 fun w2 he2=>Vh hl hn hk hg2 w2 (he.trans he2)))) (by simp[Ce,Ei,hlen,J2v h0])
 ·skip
  rcases Bo n with h0|h0
  ·exact J4 (R:=Ce l k _ g op) (zF (l:=l) hnc hcm hn hk hg1 hg2 h0) (by simp[Ce,Ei,hlen,h0])
  ·exact J4 (R:=Ce l k _ g op) (J1q (l:=l) hnc hcm hn hk hg1 hg2 h0 (A6 fun w1 he=>aE hnc hcm hn hk h0 (hX1 _) (A6 fun w2 he2=>Vh hl hn hk hg2 w2 (he.trans he2)))) (by simp[Ce,Ei,hlen,J2v h0])
 ·skip
  rcases Bo k with h0|h0
  ·exact J4 (R:=Ce l k _ g op) (zE (l:=l) hnc hcm hn hk hg1 hg2 h0) (by simp[Ce,Ei,h0])
  ·exact J4 (R:=Ce l k _ g op) (J1o (l:=l) hnc hcm hn hk hg1 hg2 h0 (A6 (Vi hl hn hk hg2))) (by simp[Ce,Ei,J2v h0])
 ·skip
  rcases Bo k with h0|h0
  ·exact J4 (R:=Ce l k _ g op) (zH (l:=l) hnc hcm hn hk hg1 hg2 h0) (by simp[Ce,Ei,h0])
  ·exact J4 (R:=Ce l k _ g op) (J1s (l:=l) hnc hcm hn hk hg1 hg2 h0 (A6 (Vi hl hn hk hg2))) (by simp[Ce,Ei,J2v h0])
 ·skip
  rcases Bo n with h0|h0
  ·exact J4 (R:=Ce l k _ g op) (uO (l:=l) hnc hcm hn hk hg1 hg2 h0) (by simp[Ce,Ei,hlen,h0])
  ·exact J4 (R:=Ce l k _ g op) (zN (l:=l) hnc hcm hn hk hg1 hg2 h0 (A6 fun w1 he=>iN hnc hcm hn hk h0 (hX2 _) (A6 fun w2 he2=>Xc hl hn hk hg2 w2 (he.trans he2)))) (by simp[Ce,Ei,hlen,J2v h0])
 ·skip
  rcases Bo n with h0|h0
  ·exact J4 (R:=Ce l k _ g op) (zG (l:=l) hnc hcm hn hk hg1 hg2 h0) (by simp[Ce,Ei,hlen,h0])
  ·exact J4 (R:=Ce l k _ g op) (J1r (l:=l) hnc hcm hn hk hg1 hg2 h0 (A6 fun w1 he=>iN hnc hcm hn hk h0 (hX2 _) (A6 fun w2 he2=>Xc hl hn hk hg2 w2 (he.trans he2)))) (by simp[Ce,Ei,hlen,J2v h0])
 ·skip
  rcases Bo n with h0|h0
  ·exact J4 (zI (l:=l) hnc hcm hn hk hg1 hg2 h0) (by unfold Ce;rw[if_pos rfl];exact .inr ⟨fun i _ h2=>absurd h2 (by rw[hlen];omega),rfl⟩)
  ·exact J1t (l:=l) (R:=Ce l k 37 g op) hnc hcm hn hk hg1 hg2 h0 (A6 fun w1 he=>(eI (hl.ext he) wl hn hk).mono fun e w' ⟨h1,h2⟩=>⟨by
    rcases h1 with⟨i,m,hf,rfl⟩|⟨hno,rfl⟩
    ·exact⟨some (m,true),by unfold Ce;rw[if_pos rfl];exact .inl ⟨i,m,hf,rfl⟩,rfl⟩
    ·exact⟨none,by unfold Ce;rw[if_pos rfl];exact .inr ⟨hno,rfl⟩,rfl⟩,h2⟩)
theorem lP {key arg:Int}(hl:Bl w A n c l)(hn:n≤4096)(hk:k≤n)(hg1:1≤g)(hg2:g≤4096)(hkey:Jp key=true):
 Calls Tryz.prog 145 #[.agg #[.slice A n c,.int .i64 k,.int .i64 g,.bool op],.int .i64 key,.int .i64 arg] w fun e w'=>(∃o,o=Yu l k key arg g∧e=Ds o)∧An w w':=by
 have hnc:=hl.ncap;have hcm:=hl.nmax;have hlen:=hl.len;have HR:∀w1,An w w1→Calls Tryz.prog 167 #[.agg #[.slice A n c,.int .i64 k,.int .i64 g,.bool op],.int .i64 arg,.int .i64 1] w1 fun e w'=>e=Qp (J7 l arg (n-(k+1)) (k+1) g)∧An w1 w':=fun w1 he=>fI (hl.ext he) hn hk hg1 hg2
 have HL:∀w1,An w w1→Calls Tryz.prog 167 #[.agg #[.slice A n c,.int .i64 k,.int .i64 g,.bool op],.int .i64 arg,.int .i64 (-1)] w1 fun e w'=>e=Qp (Kb l arg k g)∧An w1 w':=fun w1 he=>lT (hl.ext he) hn hk hg1 hg2
 have b1:∀j,J7 l arg (n-(k+1)) (k+1) g=some j→1≤j∧j≤4096:=fun j h=>by have:=Rq h;omega
 have b2:∀j,Kb l arg k g=some j→j≤4096:=fun j h=>by have:=Rr h;omega
 unfold Jp at hkey;rw[decide_eq_true_eq]at hkey;unfold Yu;rw[hlen];generalize J7 l arg (n-(k+1)) (k+1) g=x at*;generalize Kb l arg k g=y at*;rcases hkey with rfl|rfl|rfl|rfl
 ·rcases x with _|j
  ·exact J4 (R:=fun o=>o=_) (wC (l:=l) hnc hcm hn hk hg1 hg2 (A6 HR)) (by simp)
  ·exact J4 (R:=fun o=>o=_) (wB (l:=l) hnc hcm hn hk hg1 hg2 (b1 j rfl) (A6 HR)) (by simp)
 ·rcases x with _|j
  ·exact J4 (R:=fun o=>o=_) (wA (l:=l) hnc hcm hn hk hg1 hg2 (A6 HR)) (by simp)
  ·exact J4 (R:=fun o=>o=_) (vZ (l:=l) hnc hcm hn hk hg1 hg2 (b1 j rfl) (A6 HR)) (by simp)
 ·rcases y with _|j
  ·exact J4 (R:=fun o=>o=_) (J0m (l:=l) hnc hcm hn hk hg1 hg2 (A6 HL)) (by simp)
  ·exact J4 (R:=fun o=>o=_) (J0l (l:=l) hnc hcm hn hk hg1 hg2 (b2 j rfl) (A6 HL)) (by simp)
 ·rcases y with _|j
  ·exact J4 (R:=fun o=>o=_) (J0k (l:=l) hnc hcm hn hk hg1 hg2 (A6 HL)) (by simp)
  ·exact J4 (R:=fun o=>o=_) (J0j (l:=l) hnc hcm hn hk hg1 hg2 (b2 j rfl) (A6 HL)) (by simp)
end
theorem Xt (key:Int)(w:World):Calls Tryz.prog 144 #[.int .i64 key] w fun e w'=>e=.returned (.tuple #[.bool (Ko key||Jp key),.bool (Jp key)])∧w=w':=by
 by_cases h:key=104∨key=108∨key=48∨key=94∨key=36∨key=124∨key=119∨key=87∨key=98∨key=66∨key=101∨key=69∨key=37∨key=102∨key=116∨key=70∨key=84
 ·rcases h with rfl|rfl|rfl|rfl|rfl|rfl|rfl|rfl|rfl|rfl|rfl|rfl|rfl|rfl|rfl|rfl|rfl
  all_goals
   go_enter Tryz.func144,Tryz.ntmps144
   go_wp2_with fail
   go_ret2
   exact⟨rfl,rfl⟩
 ·have H:Hid (Ko key=false∧Jp key=false):=A6 ⟨by unfold Ko;simp;omega,by unfold Jp;simp;omega⟩
  simp only[not_or]at h;obtain⟨h1,h2,h3,h4,h5,h6,h7,h8,h9,h10,h11,h12,h13,h14,h15,h16,h17⟩:=h;have g1:(key==104)=false:=by simpa using h1
  have g2:(key==108)=false:=by simpa using h2
  have g3:(key==48)=false:=by simpa using h3
  have g4:(key==94)=false:=by simpa using h4
  have g5:(key==36)=false:=by simpa using h5
  have g6:(key==124)=false:=by simpa using h6
  have g7:(key==119)=false:=by simpa using h7
  have g8:(key==87)=false:=by simpa using h8
  have g9:(key==98)=false:=by simpa using h9
  have g10:(key==66)=false:=by simpa using h10
  have g11:(key==101)=false:=by simpa using h11
  have g12:(key==69)=false:=by simpa using h12
  have g13:(key==37)=false:=by simpa using h13
  have g14:(key==102)=false:=by simpa using h14
  have g15:(key==116)=false:=by simpa using h15
  have g16:(key==70)=false:=by simpa using h16
  have g17:(key==84)=false:=by simpa using h17
  rw[H.out.1,H.out.2];clear h1 h2 h3 h4 h5 h6 h7 h8 h9 h10 h11 h12 h13 h14 h15 h16 h17;go_enter Tryz.func144,Tryz.ntmps144
  go_wp2_with fail
  go_ret2
  exact⟨rfl,rfl⟩
def Wo:Option (Nat×Bool)→Ending
 |some (a,i)=>.returned (.tuple #[.int .i64 a,.bool i,.int .i64 0])
 |none=>.returned (.tuple #[.int .i64 0,.bool false,.int .i64 5])
theorem Xn (a:Nat)(i:Bool):Wo (some (a,i))=.returned (.tuple #[.int .i64 a,.bool i,.int .i64 0]):=rfl
theorem Xo:Wo none=.returned (.tuple #[.int .i64 0,.bool false,.int .i64 5]):=rfl
def Wx (n:Nat)(k key cnt:Int):Prop:=n≤4096∧0≤k∧(k=0∨k<n)∧0≤cnt∧cnt≤999∧(Ko key||Jp key)=true
theorem Vs {k key cnt arg:Int}(hnc:n≤c)(hcm:c≤maxLen):
 Calls Tryz.prog 143 #[.slice A n c,.int .i64 k,.agg #[.int .i64 key,.int .i64 cnt,.int .i64 arg]] w fun e w'=>(∃er:Int,e=.returned (.int .i64 er)∧((er=0∧Wx n k key cnt)∨((er !=0)=true∧¬Wx n k key cnt)))∧An w w':=by
 unfold maxLen at hcm;by_cases hn:4096<n
 ·have HN:Hid (¬Wx n k key cnt):=A6 (fun h=>by have:=h.1;omega)
  go_enter Tryz.func143,Tryz.ntmps143
  exact I106
 by_cases hk:k<0∨(0<k∧(n:Int)≤k)∨cnt<0∨999<cnt
 ·have HN:Hid (¬Wx n k key cnt):=A6 (fun h=>by obtain⟨_,h1,h2,h3,h4,_⟩:=h;omega)
  have hp:∀v:Int,Hid (k<0∨(0<k∧(n:Int)≤k)∨cnt<0∨999<cnt):=fun _=>A6 hk
  clear hk;go_enter Tryz.func143,Tryz.ntmps143
  go_wp2_with fail
  all_goals (try(exfalso;have:=(hp 0).out;omega))
  all_goals
   go_ret
   exact⟨⟨1,rfl,.inr ⟨by decide,HN.out⟩⟩,An.alloc _ _⟩
 ·have hm:k≤if(1:Int)<n then(n:Int)-1 else 0:=by split<;>omega
  have HK:=A6 (Xt key (w.alloc (.cells #[.int .i64 key,.int .i64 cnt,.int .i64 arg] 185)));rcases hb:(Ko key||Jp key)with _|_
  ·have HN:Hid (¬Wx n k key cnt):=A6 (fun h=>by have:=h.2.2.2.2.2;rw[hb]at this;cases this)
   rw[hb]at HK;have h1:¬k<0:=by omega
   have h2:¬cnt<0:=by omega
   have h3:¬999<cnt:=by omega
   clear hb hk;go_enter Tryz.func143,Tryz.ntmps143
   go_wp2_with fail
   all_goals
    refine HK.out.mono ?_
    rintro e w1 ⟨rfl,rfl⟩;exact I106
  ·have HN:Hid (Wx n k key cnt):=A6 ⟨by omega,by omega,by omega,by omega,by omega,hb⟩
   rw[hb]at HK;have h1:¬k<0:=by omega
   have h2:¬cnt<0:=by omega
   have h3:¬999<cnt:=by omega
   clear hb hk;go_enter Tryz.func143,Tryz.ntmps143
   go_wp2_with fail
   all_goals
    refine HK.out.mono ?_
    rintro e w1 ⟨rfl,rfl⟩;go_wp2_with fail
    go_ret
    exact⟨⟨_,rfl,.inl ⟨rfl,HN.out⟩⟩,An.alloc _ _⟩
theorem eP   
 (HC:Hid (∀w:World,Calls Tryz.prog 143 #[.slice A n c,.int .i64 k,.agg #[.int .i64 key,.int .i64 0,.int .i64 arg]] w fun e w'=>e=.returned (.int .i64 0)∧An w w'))
 (HK:Hid (∀w:World,Calls Tryz.prog 144 #[.int .i64 key] w fun e w'=>e=.returned (.tuple #[.bool true,.bool false])∧w=w'))
 (HP:Hid (∀w1:World,An w w1→Calls Tryz.prog 146 #[.agg #[.slice A n c,.int .i64 k,.int .i64 1,.bool op],.int .i64 key] w1 fun e w'=>(∃o,R o∧e=Ds o)∧An w1 w')):
 Calls Tryz.prog 108 #[.slice A n c,.int .i64 k,.agg #[.int .i64 key,.int .i64 0,.int .i64 arg],.bool op] w fun e w'=>(∃o,R o∧e=Wo o)∧An w w':=by
 have N0:=trivial;exact K17
theorem eO   
 (HC:Hid (∀w:World,Calls Tryz.prog 143 #[.slice A n c,.int .i64 k,.agg #[.int .i64 key,.int .i64 1,.int .i64 arg]] w fun e w'=>e=.returned (.int .i64 0)∧An w w'))
 (HK:Hid (∀w:World,Calls Tryz.prog 144 #[.int .i64 key] w fun e w'=>e=.returned (.tuple #[.bool true,.bool false])∧w=w'))
 (HP:Hid (∀w1:World,An w w1→Calls Tryz.prog 146 #[.agg #[.slice A n c,.int .i64 k,.int .i64 1,.bool op],.int .i64 key] w1 fun e w'=>(∃o,R o∧e=Ds o)∧An w1 w')):
 Calls Tryz.prog 108 #[.slice A n c,.int .i64 k,.agg #[.int .i64 key,.int .i64 1,.int .i64 arg],.bool op] w fun e w'=>(∃o,R o∧e=Wo o)∧An w w':=by
 have N1:=trivial;exact K17
theorem eN {q:Nat}(hq2:2≤q)
 (HC:Hid (∀w:World,Calls Tryz.prog 143 #[.slice A n c,.int .i64 k,.agg #[.int .i64 key,.int .i64 q,.int .i64 arg]] w fun e w'=>e=.returned (.int .i64 0)∧An w w'))
 (HK:Hid (∀w:World,Calls Tryz.prog 144 #[.int .i64 key] w fun e w'=>e=.returned (.tuple #[.bool true,.bool false])∧w=w'))
 (HP:Hid (∀w1:World,An w w1→Calls Tryz.prog 146 #[.agg #[.slice A n c,.int .i64 k,.int .i64 q,.bool op],.int .i64 key] w1 fun e w'=>(∃o,R o∧e=Ds o)∧An w1 w')):
 Calls Tryz.prog 108 #[.slice A n c,.int .i64 k,.agg #[.int .i64 key,.int .i64 q,.int .i64 arg],.bool op] w fun e w'=>(∃o,R o∧e=Wo o)∧An w w':=by
 have N2:=trivial;exact K17
theorem eS   
 (HC:Hid (∀w:World,Calls Tryz.prog 143 #[.slice A n c,.int .i64 k,.agg #[.int .i64 key,.int .i64 0,.int .i64 arg]] w fun e w'=>e=.returned (.int .i64 0)∧An w w'))
 (HK:Hid (∀w:World,Calls Tryz.prog 144 #[.int .i64 key] w fun e w'=>e=.returned (.tuple #[.bool true,.bool true])∧w=w'))
 (HP:Hid (∀w1:World,An w w1→Calls Tryz.prog 145 #[.agg #[.slice A n c,.int .i64 k,.int .i64 1,.bool op],.int .i64 key,.int .i64 arg] w1 fun e w'=>(∃o,R o∧e=Ds o)∧An w1 w')):
 Calls Tryz.prog 108 #[.slice A n c,.int .i64 k,.agg #[.int .i64 key,.int .i64 0,.int .i64 arg],.bool op] w fun e w'=>(∃o,R o∧e=Wo o)∧An w w':=by
 have N3:=trivial;exact K17
theorem eR   
 (HC:Hid (∀w:World,Calls Tryz.prog 143 #[.slice A n c,.int .i64 k,.agg #[.int .i64 key,.int .i64 1,.int .i64 arg]] w fun e w'=>e=.returned (.int .i64 0)∧An w w'))
 (HK:Hid (∀w:World,Calls Tryz.prog 144 #[.int .i64 key] w fun e w'=>e=.returned (.tuple #[.bool true,.bool true])∧w=w'))
 (HP:Hid (∀w1:World,An w w1→Calls Tryz.prog 145 #[.agg #[.slice A n c,.int .i64 k,.int .i64 1,.bool op],.int .i64 key,.int .i64 arg] w1 fun e w'=>(∃o,R o∧e=Ds o)∧An w1 w')):
 Calls Tryz.prog 108 #[.slice A n c,.int .i64 k,.agg #[.int .i64 key,.int .i64 1,.int .i64 arg],.bool op] w fun e w'=>(∃o,R o∧e=Wo o)∧An w w':=by
 have N4:=trivial;exact K17
theorem eQ {q:Nat}(hq2:2≤q)
 (HC:Hid (∀w:World,Calls Tryz.prog 143 #[.slice A n c,.int .i64 k,.agg #[.int .i64 key,.int .i64 q,.int .i64 arg]] w fun e w'=>e=.returned (.int .i64 0)∧An w w'))
 (HK:Hid (∀w:World,Calls Tryz.prog 144 #[.int .i64 key] w fun e w'=>e=.returned (.tuple #[.bool true,.bool true])∧w=w'))
 (HP:Hid (∀w1:World,An w w1→Calls Tryz.prog 145 #[.agg #[.slice A n c,.int .i64 k,.int .i64 q,.bool op],.int .i64 key,.int .i64 arg] w1 fun e w'=>(∃o,R o∧e=Ds o)∧An w1 w')):
 Calls Tryz.prog 108 #[.slice A n c,.int .i64 k,.agg #[.int .i64 key,.int .i64 q,.int .i64 arg],.bool op] w fun e w'=>(∃o,R o∧e=Wo o)∧An w w':=by
 have N5:=trivial;exact K17
def Sd (l:List Int)(n:Nat)(k key cnt arg:Int)(op:Bool)(e:Ending):Prop:=
 (Wx n k key cnt∧∃o,Wy l k.toNat key arg (max 1 cnt).toNat op o∧e=Wo o)∨(¬Wx n k key cnt∧∃er:Int,(er !=0)=true∧e=.returned (.tuple #[.int .i64 0,.bool false,.int .i64 er]))
theorem Zd (h:Jp key=false)(h2:(Ko key||Jp key)=true):Ko key=true:=by
 rw[h]at h2;simpa using h2
theorem eT {k key cnt arg:Int}(hnc:n≤c)(hcm:c≤maxLen):
 (Wx n k key cnt∧∀w:World,Calls Tryz.prog 143 #[.slice A n c,.int .i64 k,.agg #[.int .i64 key,.int .i64 cnt,.int .i64 arg]] w fun e w'=>e=.returned (.int .i64 0)∧An w w')∨
 (¬Wx n k key cnt∧∀w:World,Calls Tryz.prog 143 #[.slice A n c,.int .i64 k,.agg #[.int .i64 key,.int .i64 cnt,.int .i64 arg]] w fun e w'=>(∃er:Int,(er !=0)=true∧e=.returned (.int .i64 er))∧An w w'):=by
 by_cases h:Wx n k key cnt
 ·refine .inl ⟨h,fun w=>(Vs hnc hcm).mono ?_⟩
  rintro e w' ⟨⟨er,rfl,⟨rfl,_⟩|⟨_,h2⟩⟩,h3⟩
  ·exact⟨rfl,h3⟩
  ·exact absurd h h2
 ·refine .inr ⟨h,fun w=>(Vs hnc hcm).mono ?_⟩
  rintro e w' ⟨⟨er,rfl,⟨_,h2⟩|⟨h1,_⟩⟩,h3⟩
  ·exact absurd h2 h
  ·exact⟨⟨er,h1,rfl⟩,h3⟩
theorem qI {k key cnt arg:Int}(hC:Hid (∀w:World,Calls Tryz.prog 143 #[.slice A n c,.int .i64 k,.agg #[.int .i64 key,.int .i64 cnt,.int .i64 arg]] w fun e w'=>(∃er:Int,(er !=0)=true∧e=.returned (.int .i64 er))∧An w w')):
 Calls Tryz.prog 108 #[.slice A n c,.int .i64 k,.agg #[.int .i64 key,.int .i64 cnt,.int .i64 arg],.bool op] w fun e w'=>(∃er:Int,(er !=0)=true∧e=.returned (.tuple #[.int .i64 0,.bool false,.int .i64 er]))∧An w w':=by
 go_enter Tryz.func108,Tryz.ntmps108
 go_wp2_with fail
 refine(hC.out _).mono ?_
 rintro e w1 ⟨⟨er,her,rfl⟩,he1⟩;go_wp2_with fail
 go_ret3
 exact⟨⟨er,her,rfl⟩,(An.alloc _ _).trans he1⟩
theorem Z0 {k key cnt arg:Int}(hl:Bl w A n c l)(wl:∀x∈l,(Lit.int .i64 x).wf=true):
 Calls Tryz.prog 108 #[.slice A n c,.int .i64 k,.agg #[.int .i64 key,.int .i64 cnt,.int .i64 arg],.bool op] w fun e w'=>Sd l n k key cnt arg op e∧An w w':=by
 have hnc:=hl.ncap;have hcm:=hl.nmax;rcases eT (A:=A) (n:=n) (c:=c) (k:=k) (key:=key) (cnt:=cnt) (arg:=arg) hnc hcm with⟨hok,hC⟩|⟨hok,hC⟩
 ·have hok':=hok
  obtain⟨hn,hk0,hk1,hc0,hc1,hkey⟩:=hok;obtain⟨kn,rfl⟩:=Int.eq_ofNat_of_zero_le hk0;obtain⟨q,rfl⟩:=Int.eq_ofNat_of_zero_le hc0;have hkn:kn≤n:=by omega
  have hK:=Xt key;rw[hkey]at hK;have hfin:∀{g:Nat} (hg:(max 1 (q:Int)).toNat=g),Calls Tryz.prog 108 #[.slice A n c,.int .i64 kn,.agg #[.int .i64 key,.int .i64 q,.int .i64 arg],.bool op] w (fun e w'=>(∃o,Wy l kn key arg g op o∧e=Wo o)∧An w w')→
   Calls Tryz.prog 108 #[.slice A n c,.int .i64 kn,.agg #[.int .i64 key,.int .i64 q,.int .i64 arg],.bool op] w fun e w'=>Sd l n kn key q arg op e∧An w w':=by
   intro g hg h;refine h.mono ?_
   rintro e w' ⟨h1,h2⟩;exact⟨.inl ⟨hok',by rw[hg];exact h1⟩,h2⟩
  rcases hf:Jp key with _|_
  ·rw[hf]at hK
   have hp:=Zd hf hkey;have HP:∀g:Nat,1≤g→g≤4096→∀w1:World,An w w1→Calls Tryz.prog 146 #[.agg #[.slice A n c,.int .i64 kn,.int .i64 g,.bool op],.int .i64 key] w1 fun e w'=>(∃o,Wy l kn key arg g op o∧e=Ds o)∧An w1 w':=by
    intro g h1 h2 w1 he;refine(kO (hl.ext he) wl hn hkn h1 h2 hp).mono ?_
    exact I88
   rcases q with _|_|q
   ·exact hfin (g:=1) (by omega) (eP (A6 hC) (A6 hK) (A6 (HP 1 (by omega) (by omega))))
   ·exact hfin (g:=1) (by omega) (eO (A6 hC) (A6 hK) (A6 (HP 1 (by omega) (by omega))))
   ·exact hfin (g:=q+2) (by omega) (eN (q:=q+2) (by omega) (A6 hC) (A6 hK) (A6 (HP (q+2) (by omega) (by omega))))
  ·rw[hf]at hK
   have HP:∀g:Nat,1≤g→g≤4096→∀w1:World,An w w1→Calls Tryz.prog 145 #[.agg #[.slice A n c,.int .i64 kn,.int .i64 g,.bool op],.int .i64 key,.int .i64 arg] w1 fun e w'=>(∃o,Wy l kn key arg g op o∧e=Ds o)∧An w1 w':=by
    intro g h1 h2 w1 he;refine(lP (hl.ext he) hn hkn h1 h2 hf).mono ?_
    exact I88
   rcases q with _|_|q
   ·exact hfin (g:=1) (by omega) (eS (A6 hC) (A6 hK) (A6 (HP 1 (by omega) (by omega))))
   ·exact hfin (g:=1) (by omega) (eR (A6 hC) (A6 hK) (A6 (HP 1 (by omega) (by omega))))
   ·exact hfin (g:=q+2) (by omega) (eQ (q:=q+2) (by omega) (A6 hC) (A6 hK) (A6 (HP (q+2) (by omega) (by omega))))
 ·refine(qI (A6 hC)).mono ?_
  rintro e w' ⟨h1,h2⟩;exact⟨.inr ⟨hok,h1⟩,h2⟩
def Ku (l:List Int)(n:Nat)(k key cnt arg:Int)(e:Ending):Prop:=
 (∃er:Int,(er !=0)=true∧e=.returned (.tuple #[.int .i64 0,.int .i64 0,.int .i64 er])∧(Wx n k key cnt→Wy l k.toNat key arg (max 1 cnt).toNat true none))∨
 (Wx n k key cnt∧∃(a:Nat) (i:Bool),Wy l k.toNat key arg (max 1 cnt).toNat true (some (a,i))∧a≤n∧(i=true→a<n)∧
  ∃lo hi:Int,lo=min k a∧hi=max k a+(if i=true then 1 else 0)∧e=.returned (.tuple #[.int .i64 lo,.int .i64 hi,.int .i64 0]))
theorem kZ {k key cnt arg:Int}(hl:Bl w A n c l)(wl:∀x∈l,(Lit.int .i64 x).wf=true):
 Calls Tryz.prog 109 #[.slice A n c,.int .i64 k,.agg #[.int .i64 key,.int .i64 cnt,.int .i64 arg]] w fun e w'=>Ku l n k key cnt arg e∧An w w':=by
 have hlen:=A6 hl.len;have hx:=An.alloc w (.cells #[.int .i64 key,.int .i64 cnt,.int .i64 arg] 185);have HG:=A6 (Z0 (k:=k) (key:=key) (cnt:=cnt) (arg:=arg) (op:=true) (hl.ext hx) wl);clear wl hl;go_enter Tryz.func109,Tryz.ntmps109
 go_wp2_with fail
 refine HG.out.mono ?_
 rintro e w1 ⟨⟨hok,o,hR,he⟩|⟨hok,er,her,rfl⟩,he1⟩
 ·have HO:=A6 hok
  have HR:=A6 hR;clear hok hR HG;rcases o with _|⟨a,i⟩
  ·rw[Xo]at he
   subst he;go_wp2_with fail
   go_ret3
   exact⟨.inl ⟨5,rfl,rfl,fun _=>HR.out⟩,hx.trans he1⟩
  ·rw[Xn]at he
   subst he;have hb:=nW (l:=l) (by have:=HO.out;obtain⟨_,h1,h2,_⟩:=this;rw[hlen.out];omega) (by omega) HR.out rfl
   rw[hlen.out]at hb;have HB:=A6 hb;have hk:Hid (0≤k∧(k=0∨k<n)∧n≤4096):=A6 ⟨HO.out.2.1,HO.out.2.2.1,HO.out.1⟩;have ha:=hb.1;have hk1:=hk.out.1;have hn:=hk.out.2.2;have hk2:k≤n:=by have:=hk.out.2.1;omega
   clear hb;cases i
   ·go_wp2_with fail
    all_goals
     go_ret3
     exact⟨.inr ⟨HO.out,a,false,HR.out,HB.out.1,HB.out.2.2,_,_,by omega,by simp;omega,rfl⟩,hx.trans he1⟩
   ·go_wp2_with fail
    all_goals
     go_ret3
     exact⟨.inr ⟨HO.out,a,true,HR.out,HB.out.1,fun _=>HB.out.2.2 trivial,_,_,by omega,by simp;omega,rfl⟩,hx.trans he1⟩
 ·have HO:=A6 hok
  clear hok HG;go_wp2_with fail
  go_ret3
  exact⟨.inl ⟨er,her,rfl,fun h=>absurd h HO.out⟩,hx.trans he1⟩
theorem eD {n:Nat}{k key cnt arg:Int}{e:Ending}(h:Ku l n k key cnt arg e):
 (∃er:Int,(er !=0)=true∧e=.returned (.tuple #[.int .i64 0,.int .i64 0,.int .i64 er]))∨(∃lo hi:Int,0≤lo∧lo≤k∧k≤hi∧hi≤n∧e=.returned (.tuple #[.int .i64 lo,.int .i64 hi,.int .i64 0])):=by
 rcases h with⟨er,h1,h2,_⟩|⟨hok,a,i,_,ha,hi,lo,hi',h1,h2,h3⟩
 ·exact .inl ⟨er,h1,h2⟩
 ·obtain⟨_,b1,b2,_⟩:=hok
  refine .inr ⟨lo,hi',by omega,by omega,?_,?_,h3⟩
  ·rw[h2];split<;>omega
  ·rw[h2]
   split
   ·have:=hi ‹_›;omega
   ·omega
def xI (key:Int):Int:=if Mo key=true then Cw key else key
theorem nT {R:Int→Int→Int→Prop}(hnc:n≤c)(hcm:c≤maxLen)(hn:n≤4096)(hk:k=0∨k<n)(hkey:(key=119∧big=false)∨(key=87∧big=true))
 (HB:Hid (Calls Tryz.prog 117 #[.slice A n c,.int .i64 k,.bool ar,.bool big] (w.alloc (.cells #[.int .i64 0,.int .i64 0] 196)) fun e w'=>(∃x y er,R x y er∧e=.returned (.tuple #[.agg #[.int .i64 x,.int .i64 y],.int .i64 er]))∧An (w.alloc (.cells #[.int .i64 0,.int .i64 0] 196)) w')):
 Calls Tryz.prog 75 #[.slice A n c,.int .i64 k,.bool ar,.int .i64 key] w fun e w'=>(∃x y er,R x y er∧e=.returned (.tuple #[.int .i64 x,.int .i64 y,.int .i64 er]))∧An w w':=by
 have N0:=trivial;exact K22
theorem zQ {R:Int→Int→Int→Prop}(hnc:n≤c)(hcm:c≤maxLen)(hn:n≤4096)(hk:k=0∨k<n)(hkey:key=34∨key=39∨key=96)
 (HB:Hid (Calls Tryz.prog 119 #[.slice A n c,.int .i64 k,.bool ar,.int .i64 key] (w.alloc (.cells #[.int .i64 0,.int .i64 0] 196)) fun e w'=>(∃x y er,R x y er∧e=.returned (.tuple #[.agg #[.int .i64 x,.int .i64 y],.int .i64 er]))∧An (w.alloc (.cells #[.int .i64 0,.int .i64 0] 196)) w')):
 Calls Tryz.prog 75 #[.slice A n c,.int .i64 k,.bool ar,.int .i64 key] w fun e w'=>(∃x y er,R x y er∧e=.returned (.tuple #[.int .i64 x,.int .i64 y,.int .i64 er]))∧An w w':=by
 have N1:=trivial;exact K22
theorem zS {R:Int→Int→Int→Prop}(hnc:n≤c)(hcm:c≤maxLen)(hn:n≤4096)(hk:k=0∨k<n)(hkey:key=40∨key=41∨key=91∨key=93∨key=123∨key=125)
 (HB:Hid (Calls Tryz.prog 118 #[.slice A n c,.int .i64 k,.bool ar,.int .i64 (xI key)] (w.alloc (.cells #[.int .i64 0,.int .i64 0] 196)) fun e w'=>(∃x y er,R x y er∧e=.returned (.tuple #[.agg #[.int .i64 x,.int .i64 y],.int .i64 er]))∧An (w.alloc (.cells #[.int .i64 0,.int .i64 0] 196)) w')):
 Calls Tryz.prog 75 #[.slice A n c,.int .i64 k,.bool ar,.int .i64 key] w fun e w'=>(∃x y er,R x y er∧e=.returned (.tuple #[.int .i64 x,.int .i64 y,.int .i64 er]))∧An w w':=by
 have N2:=trivial;exact K22
def Ud (key:Int):Prop:=key≠119∧key≠87∧key≠34∧key≠39∧key≠96∧key≠40∧key≠41∧key≠91∧key≠93∧key≠123∧key≠125
theorem zR (hnc:n≤c)(hcm:c≤maxLen)(hn:n≤4096)(hk:k=0∨k<n)(hkey:Ud key):
 Calls Tryz.prog 75 #[.slice A n c,.int .i64 k,.bool ar,.int .i64 key] w fun e w'=>e=.returned (.tuple #[.int .i64 0,.int .i64 0,.int .i64 9])∧An w w':=by
 unfold maxLen at hcm;have hm:(k:Int)≤max 0 ((n:Int)-1):=by omega
 obtain⟨h1,h2,h3,h4,h5,h6,h7,h8,h9,h10,h11⟩:=hkey;have b1:(key==119)=false:=by simpa using h1
 have b2:(key==87)=false:=by simpa using h2
 have b3:(key==34)=false:=by simpa using h3
 have b4:(key==39)=false:=by simpa using h4
 have b5:(key==96)=false:=by simpa using h5
 have b6:(key==40)=false:=by simpa using h6
 have b7:(key==41)=false:=by simpa using h7
 have b8:(key==91)=false:=by simpa using h8
 have b9:(key==93)=false:=by simpa using h9
 have b10:(key==123)=false:=by simpa using h10
 have b11:(key==125)=false:=by simpa using h11
 have he:=An.alloc w (.cells #[.int .i64 0,.int .i64 0] 196);have hbf:=Aq.new w 196 #[.int .i64 0,.int .i64 0];have c6:=hbf.cell 0;have c7:=hbf.cell 1;simp only[List.getElem?_toArray,List.getElem?_cons_zero,List.getElem?_cons_succ]at c6 c7;clear h1 h2 h3 h4 h5 h6 h7 h8 h9 h10 h11 hbf;go_enter Tryz.func75,Tryz.ntmps75
 go_wp2_with fail
 all_goals
  go_quiet (fail)
  go_wp2_with fail
  go_ret3
  exact⟨rfl,he.to_drewN _⟩
theorem Zh (hl:Bl w A n c l)(wl:∀x∈l,(Lit.int .i64 x).wf=true)(hn:n≤4096)(hk:k=0∨k<n):
 Calls Tryz.prog 118 #[.slice A n c,.int .i64 k,.bool true,.int .i64 o] w fun e w'=>((∃i b:Nat,Wz l k o i b∧e=.returned (.tuple #[.agg #[.int .i64 i,.int .i64 ((b:Int)+1)],.int .i64 0]))∨
  (U7 l k o∧e=.returned (.tuple #[.agg #[.int .i64 0,.int .i64 0],.int .i64 6])))∧An w w':=by
 have N0:=trivial;exact K14
def qs (l:List Int)(k:Nat)(q:Int):Nat→Int
 |0=>-1
 |j+1=>if gI l j≠q then qs l k q j else if qs l k q j<0 then j else -1
theorem xL (l:List Int)(k:Nat)(q:Int):∀j:Nat,-1≤qs l k q j∧qs l k q j<j
 |0=>by unfold qs;omega
 |j+1=>by
  have:=xL l k q j;unfold qs
  (repeat' split)<;>omega
def Yn (l:List Int)(k:Nat)(q:Int)(j:Nat):Prop:=gI l j=q∧0≤qs l k q j∧k≤j
def Se (l:List Int)(k:Nat)(q:Int)(f t:Nat):Prop:=t<l.length∧Yn l k q t∧(∀j,j<t→¬Yn l k q j)∧qs l k q t=(f:Int)∧f<t
def tP (l:List Int)(k:Nat)(q:Int):Prop:=∀j,j<l.length→¬Yn l k q j
theorem fG {f t f' t':Nat}(h:Se l k q f t)(h':Se l k q f' t'):f=f'∧t=t':=by
 have e:t=t':=by
  rcases Nat.lt_trichotomy t t' with h1|h1|h1
  ·exact absurd h.2.1 (h'.2.2.1 t h1)
  ·exact h1
  ·exact absurd h'.2.1 (h.2.2.1 t' h1)
 subst e;have h1:=h.2.2.2.1;have h2:=h'.2.2.2.1;exact⟨by omega,rfl⟩
theorem Xx {f t:Nat}(h:Se l k q f t):¬tP l k q:=fun h'=>h' t h.1 h.2.1
theorem kJ (hl:Bl w A n c l)(hn:n≤4096):
 Calls Tryz.prog 119 #[.slice A n c,.int .i64 k,.bool ar,.int .i64 q] w fun e w'=>((∃f t:Nat,Se l k q f t∧e=.returned (.tuple #[.agg #[.int .i64 (if ar=true then(f:Int)else(f:Int)+1),.int .i64 (if ar=true then(t:Int)+1 else(t:Int))],.int .i64 0]))∨
  (tP l k q∧e=.returned (.tuple #[.agg #[.int .i64 0,.int .i64 0],.int .i64 6])))∧An w w':=by
 have hnc:=hl.ncap;have hcm:=hl.nmax;have hlen:=A6 hl.len;unfold maxLen at hcm;have he:=An.alloc w (.cells #[.int .i64 0,.int .i64 0] 196);have hb0:=Aq.new w 196 #[.int .i64 0,.int .i64 0];have hl1:=hl.ext he;clear hl;go_enter Tryz.func119,Tryz.ntmps119
 go_wp2_with fail
 revert he hb0 hl1
 generalize w.alloc (.cells #[.int .i64 0,.int .i64 0] 196)=w1;intro he hb0 hl1;have f0:=hb0.frozen 0;have f1:=hb0.frozen 1;have c4:=hb0.cell 0;have c5:=hb0.cell 1;simp only[Ah,Af,Ag]at c4 c5;have HBF:Hid (∀x y:Int,Aq ((w1.setCell ⟨w.heap.size,0,none⟩ (.int .i64 x)).setCell ⟨w.heap.size,1,none⟩ (.int .i64 y)) w.heap.size 196 #[.int .i64 x,.int .i64 y]):=A6 (fun x y=>by
  simpa using(hb0.set_ 0 (.int .i64 x)).set_ 1 (.int .i64 y))
 have HEF:Hid (∀x y:Int,An w ((w1.setCell ⟨w.heap.size,0,none⟩ (.int .i64 x)).setCell ⟨w.heap.size,1,none⟩ (.int .i64 y))):=A6 (fun x y=>(he.setCell (by simp) _).setCell (by simp) _)
 clear hb0;go_loopw [10,15] (fun fr v wr=>∃j:Nat,j≤n∧v=.int .i64 j∧fr=.int .i64 (qs l k q j)∧Hid (∀x,x<j→¬Yn l k q x)∧wr=w1) (fun _ v _=>n-(intOf v).toNat)
 case atStart=>exact⟨0,by omega,rfl,rfl,fun x h=>absurd h (by omega),rfl⟩
 case round=>
  obtain⟨j,hj,rfl,rfl,hall,rfl⟩:=hrel;obtain⟨q1,q2⟩:=xL l k q j;have HS:Hid (qs l k q (j+1)=if gI l j≠q then qs l k q j else if qs l k q j<0 then j else -1):=A6 rfl;have HN:Hid (¬Yn l k q j→∀x,x<j+1→¬Yn l k q x):=A6 (fun h x hx=>by
   rcases Nat.lt_or_ge x j with h3|h3
   ·exact hall.out x h3
   ·obtain rfl:x=j:=by omega
    exact h)
  by_cases hlt:j<n
  ·obtain⟨a1,rfl,hc⟩:=hl1.at_ hlt
   have d1:=hc j hlt;clear hc;by_cases hq:gI l j=q
   ·have b1:(gI l j !=q)=false:=by simpa using hq
    have HQ:=A6 hq;clear hq;by_cases hneg:qs l k q j<0
    ·have hh:Hid (¬Yn l k q j):=A6 (fun h=>by have:=h.2.1;omega)
     have HV:Hid (qs l k q (j+1)=j):=A6 (by rw[HS.out,if_neg (by simp[HQ.out]),if_pos hneg])
     exact I39
    ·by_cases hk:j<k
     ·have hh:Hid (¬Yn l k q j):=A6 (fun h=>by have:=h.2.2;omega)
      have HV:Hid (qs l k q (j+1) = -1):=A6 (by rw[HS.out,if_neg (by simp[HQ.out]),if_neg hneg])
      exact I39
     ·obtain⟨f,hf⟩:=Int.eq_ofNat_of_zero_le (show 0≤qs l k q j by omega)
      have HF:Hid (Se l k q f j):=A6 ⟨by rw[hlen.out];exact hlt,⟨HQ.out,by omega,by omega⟩,hall.out,hf,by omega⟩
      rw[hf]at q1 q2 hneg ⊢;clear hf HS;rcases ar with _|_
      ·go_wp2_with fail
       have hbf:=HBF.out ((f:Int)+1) j;exact I27
      ·go_wp2_with fail
       have hbf:=HBF.out (f:Int) ((j:Int)+1);exact I27
   ·have b1:(gI l j !=q)=true:=by simpa using hq
    have hh:Hid (¬Yn l k q j):=A6 (fun h=>hq h.1)
    have HV:Hid (qs l k q (j+1)=qs l k q j):=A6 (by rw[HS.out,if_pos hq])
    clear hq;exact I39
  ·have HF:Hid (tP l k q):=A6 (fun x hx=>hall.out x (by rw[hlen.out]at hx;omega))
   go_wp2_with fail
   all_goals
    have hbf:=HBF.out 0 0;have c6:=hbf.cell 0;have c7:=hbf.cell 1;simp only[Ah,Af,Ag]at c6 c7;clear c4 c5 f0 f1 hbf;refine bodyPost_ret (by simp[results,Tryz.results119,go_sem,c6,c7];try rfl) rfl ?_
    exact⟨.inr ⟨HF.out,rfl⟩,HEF.out _ _⟩
theorem Aq.keepCell2 {g t:Nat}{cs:Array Value}(h:Aq w g t cs){p:Addr}(hp:p.block≠g)(u:Value):Aq (w.setCell p u) g t cs:=by
 exact I101
theorem Hz (c:Int)(big:Bool)(w:World):Calls Tryz.prog 151 #[.int .i64 c,.bool big] w fun e w'=>e=.returned (.int .i64 (Bj c big))∧w=w':=
 (Uo c big w).mono fun _ _ ⟨h1,h2⟩=>⟨h1,h2.symm⟩
def Zx (w:World)(p:Addr):Nat:=match w.cell? p with|some v=>(intOf v).toNat|none=>0
theorem Pb {p:Addr}{x:Nat}(h:w.cell? p=some (.int .i64 x)):Zx w p=x:=by unfold Zx;rw[h];simp[intOf]
theorem L8 (hl:Bl w A n c l)(hn:n≤4096)(hk:k<n):
 Calls Tryz.prog 150 #[.slice A n c,.int .i64 k,.bool big] w fun e w'=>e=.returned (.agg #[.int .i64 (H7 l big (B8 l big k) k),.int .i64 (Et l big (B8 l big k) k)])∧An w w':=by
 have hnc:=hl.ncap;have hcm:=hl.nmax;have hlen:=A6 hl.len;unfold maxLen at hcm;obtain⟨a1,rfl,hc⟩:=hl.at_ hk;have HC:=A6 hc;have hx0:An w ((w.alloc (.cells #[.int .i64 0,.int .i64 0] 196)).alloc (.cells #[.int .i64 k,.int .i64 k] 196)):=(An.alloc _ _).to_alloc _;have d0:=hx0.cell (hc k hk);have hb1:=(Aq.new w 196 #[.int .i64 0,.int .i64 0]).ext (An.alloc _ (.cells #[.int .i64 k,.int .i64 k] 196));have hb2:Aq ((w.alloc (.cells #[.int .i64 0,.int .i64 0] 196)).alloc (.cells #[.int .i64 k,.int .i64 k] 196)) (w.heap.size+1) 196 #[.int .i64 k,.int .i64 k]:=by
  simpa using Aq.new (w.alloc (.cells #[.int .i64 0,.int .i64 0] 196)) 196 #[.int .i64 k,.int .i64 k]
 have hkk:Hid (B8 l big k=Bj (gI l k) big):=Gk (by rw[hlen.out];exact hk)
 have HIN:Hid (∀j:Nat,j<n→B8 l big j=Bj (gI l j) big):=A6 (fun j hj=>Gk (by rw[hlen.out];exact hj))
 clear hc;go_enter Tryz.func150,Tryz.ntmps150
 go_wp2_with fail
 refine(Hz _ _ _).mono ?_
 rintro e w1 ⟨rfl,rfl⟩;clear d0;go_wp2_with fail
 go_loopw [] (fun wr=>∃f:Nat,f≤k∧Hid (∀x:Nat,f≤x→x<k→B8 l big x=B8 l big k)∧Aq wr w.heap.size 196 #[.int .i64 0,.int .i64 0]∧Aq wr (w.heap.size+1) 196 #[.int .i64 f,.int .i64 k]∧An w wr) (fun wr=>Zx wr ⟨w.heap.size+1,0,none⟩)
 case atStart=>exact⟨k,Aj _,fun x h1 h2=>absurd h2 (by omega),hb1,hb2,hx0⟩
 case round=>
  clear hb1 hb2 hx0;obtain⟨f,hf,hall,hb1,hb2,he⟩:=hrel;have c0:=hb2.cell 0;have c1:=hb2.cell 1;have f0:=hb2.frozen 0;have f1:=hb2.frozen 1;simp only[Ah,Af,Ag]at c0 c1;have HM:=A6 (Pb c0);rcases Nat.eq_zero_or_pos f with h0|h0
  ·have HL:Hid (f=0∨B8 l big ((f:Int)-1)≠B8 l big k):=A6 (.inl h0)
   subst h0;have c0z:wr.cell? ⟨w.heap.size+1,0,none⟩=some (.int .i64 0):=c0;clear c0;have c0:=c0z;clear c0z;have HFL:Hid (H7 l big (B8 l big k) k=0):=A6 (Yx hf hall.out HL.out);go_wp2_with fail
   clear c0 c1 f0 f1;go_loopw [] (fun wr=>∃t:Nat,k≤t∧t≤n∧Hid (∀x:Nat,k≤x→x<t→B8 l big x=B8 l big k)∧Aq wr w.heap.size 196 #[.int .i64 0,.int .i64 0]∧Aq wr (w.heap.size+1) 196 #[.int .i64 ((0:Nat):Int),.int .i64 t]∧An w wr) (fun wr=>n-Zx wr ⟨w.heap.size+1,1,none⟩)
   case atStart=>exact⟨k,Aj _,by omega,fun x h1 h2=>absurd h2 (by omega),hb1,hb2,he⟩
   case round=>
    clear hb1 hb2 he;obtain⟨t,ht1,ht2,hall2,hb1,hb2,he⟩:=hrel;have c0:=hb2.cell 0;have c1:=hb2.cell 1;have f1:=hb2.frozen 1;simp only[Ah,Af,Ag]at c0 c1;have HM:=A6 (Pb c1);by_cases hlt:t<n
    ·have N0:=trivial;exact K25
    ·have N0:=trivial;exact K35
  ·obtain⟨g,rfl⟩:∃g,f=g+1:=⟨f-1,by omega⟩
   have hgn:g<n:=by omega
   have d1:=he.cell (HC.out g hgn);by_cases heq:Bj (gI l g) big=Bj (gI l k) big
   ·have b1:(Bj (gI l g) big==Bj (gI l k) big)=true:=by simpa using heq
    have HQ:Hid (B8 l big g=B8 l big k):=A6 (by rw[HIN.out g hgn,hkk.out];exact heq)
    clear heq;go_wp2_with fail
    refine(Hz _ _ _).mono ?_
    rintro e w2 ⟨rfl,rfl⟩;go_wp2_with fail
    have hb3:Aq (wr.setCell ⟨w.heap.size+1,0,none⟩ (.int .i64 (g:Int))) (w.heap.size+1) 196 #[.int .i64 g,.int .i64 k]:=by
     simpa using hb2.set_ 0 (.int .i64 (g:Int))
    have c2:=hb3.cell 0;simp only[Ah,Af,Ag]at c2;refine⟨⟨g,by omega,fun x h1 h2=>?_,hb1.keepCell2 (by simp) _,hb3,he.setCell (by simp) _⟩,?_⟩
    ·rcases Nat.lt_or_ge g x with h3|h3
     ·exact hall.out x h3 h2
     ·obtain rfl:x=g:=by omega
      exact HQ.out
    ·rw[Pb c2,HM.out];omega
   ·have b1:(Bj (gI l g) big==Bj (gI l k) big)=false:=by simpa using heq
    have HL:Hid (g+1=0∨B8 l big (((g+1:Nat):Int)-1)≠B8 l big k):=A6 (.inr (by rw[show(((g+1:Nat):Int)-1)=(g:Int)by omega,HIN.out g hgn,hkk.out];exact heq))
    clear heq;have HFL:Hid (H7 l big (B8 l big k) k=g+1):=A6 (Yx hf hall.out HL.out);go_wp2_with fail
    refine(Hz _ _ _).mono ?_
    rintro e w2 ⟨rfl,rfl⟩;go_wp2_with fail
    clear c0 c1 f0 f1;go_loopw [] (fun wr=>∃t:Nat,k≤t∧t≤n∧Hid (∀x:Nat,k≤x→x<t→B8 l big x=B8 l big k)∧Aq wr w.heap.size 196 #[.int .i64 0,.int .i64 0]∧Aq wr (w.heap.size+1) 196 #[.int .i64 ((g+1:Nat):Int),.int .i64 t]∧An w wr) (fun wr=>n-Zx wr ⟨w.heap.size+1,1,none⟩)
    case atStart=>exact⟨k,Aj _,by omega,fun x h1 h2=>absurd h2 (by omega),hb1,hb2,he⟩
    case round=>
     clear hb1 hb2 he;obtain⟨t,ht1,ht2,hall2,hb1,hb2,he⟩:=hrel;have c0:=hb2.cell 0;have c1:=hb2.cell 1;have f1:=hb2.frozen 1;simp only[Ah,Af,Ag]at c0 c1;have HM:=A6 (Pb c1);by_cases hlt:t<n
     ·have N1:=trivial;exact K25
     ·have N1:=trivial;exact K35
def Do (l:List Int)(k:Nat)(big:Bool):Nat:=H7 l big (B8 l big k) k
def Ci (l:List Int)(k:Nat)(big:Bool):Nat:=Et l big (B8 l big k) k
theorem Kt (hk:k<l.length):Do l k big≤k∧k<Ci l k big∧Ci l k big≤l.length∧∀x:Nat,Do l k big≤x→x<Ci l k big→B8 l big x=B8 l big k:=by
 unfold Do Ci;have h0:0≤B8 l big k:=by rw[Gk hk];exact(Mi _ _).1
 obtain⟨a1,a2,a3⟩:=Jr (l:=l) (big:=big) (kind:=B8 l big k) k;obtain⟨b1,b2,b3,b4⟩:=Fx (l:=l) (big:=big) (kind:=B8 l big k) h0 k;have hne:Et l big (B8 l big k) k≠k:=fun e=>b3 (by rw[e])
 refine⟨a1,by omega,by omega,fun x h1 h2=>?_⟩
 rcases Ay x k with h|h
 ·exact a2 x h1 h
 ·exact b2 x h h2
theorem oN (hl:Bl w A n c l)(hn:n≤4096)(hk:k<n):
 Calls Tryz.prog 117 #[.slice A n c,.int .i64 k,.bool false,.bool big] w fun e w'=>e=.returned (.tuple #[.agg #[.int .i64 (Do l k big),.int .i64 (Ci l k big)],.int .i64 0])∧An w w':=by
 have hnc:=hl.ncap;have hcm:=hl.nmax;have z1:((n:Int)==0)=false:=by simp;omega
 unfold maxLen at hcm;have hx:=An.alloc w (.cells #[.int .i64 0,.int .i64 0] 196);have hb0:=Aq.new w 196 #[.int .i64 0,.int .i64 0];have HR:=A6 (L8 (big:=big) (hl.ext hx) hn hk);clear hl;go_enter Tryz.func117,Tryz.ntmps117
 go_wp2_with fail
 refine HR.out.mono ?_
 rintro e w1 ⟨rfl,he1⟩;have hq:=(hb0.ext he1).ext (An.alloc _ (.cells #[.int .i64 (Do l k big),.int .i64 (Ci l k big)] 196));have hef:=(hx.trans he1).to_alloc (.cells #[.int .i64 (Do l k big),.int .i64 (Ci l k big)] 196);have f0:=hq.frozen 0;have f1:=hq.frozen 1;have c4:=hq.cell 0;have c5:=hq.cell 1;simp only[Ah,Af,Ag]at c4 c5;clear HR hb0 hx he1;rw[show H7 l big (B8 l big k) k=Do l k big from rfl,show Et l big (B8 l big k) k=Ci l k big from rfl]
 go_wp2_with fail
 have hbf:Aq (((w1.alloc (.cells #[.int .i64 (Do l k big),.int .i64 (Ci l k big)] 196)).setCell ⟨w.heap.size,0,none⟩ (.int .i64 (Do l k big))).setCell ⟨w.heap.size,1,none⟩ (.int .i64 (Ci l k big))) w.heap.size 196 #[.int .i64 (Do l k big),.int .i64 (Ci l k big)]:=by
  exact I109
 have c6:=hbf.cell 0;have c7:=hbf.cell 1;simp only[Ah,Af,Ag]at c6 c7;clear c4 c5 f0 f1 hbf;refine bodyPost_ret (by simp[results,Tryz.results117,go_sem,c6,c7];try rfl) rfl ?_
 exact⟨rfl,(hef.setCell (by simp) _).setCell (by simp) _⟩
def Yh (l:List Int)(k:Nat)(big:Bool):Nat×Nat:=
 if Ci l k big<l.length∧(B8 l big k=0∨B8 l big (Ci l k big)=0)then(Do l k big,Ci l (Ci l k big) big)
 else if B8 l big k≠0∧0<Do l k big∧B8 l big (Do l k big-1:Nat)=0 then(Do l (Do l k big-1) big,Ci l k big)
 else(Do l k big,Ci l k big)
theorem Xa (hk:k<l.length):(Yh l k big).1≤Do l k big∧Ci l k big≤(Yh l k big).2∧(Yh l k big).2≤l.length:=by
 obtain⟨a1,a2,a3,a4⟩:=Kt (big:=big) hk;unfold Yh;split
 ·rename_i h
  obtain⟨b1,b2,b3,b4⟩:=Kt (big:=big) h.1;exact⟨Aj _,by show Ci l k big≤Ci l (Ci l k big) big;omega,b3⟩
 ·split
  ·rename_i h
   obtain⟨b1,b2,b3,b4⟩:=Kt (l:=l) (k:=Do l k big-1) (big:=big) (by omega)
   exact⟨by show Do l (Do l k big-1) big≤Do l k big;omega,Aj _,a3⟩
  ·exact⟨Aj _,Aj _,a3⟩
theorem bZ (a b:Value)(u:World):(Instr.field 196 (.agg #[a,b]) 0).run Tryz.prog u=.ok a u:=by kernel_rfl
theorem Th (a b:Value)(u:World):(Instr.field 196 (.agg #[a,b]) 1).run Tryz.prog u=.ok b u:=by kernel_rfl
theorem jH (hl:Bl w A n c l)(hn:n≤4096)(hk:k<n):
 Calls Tryz.prog 117 #[.slice A n c,.int .i64 k,.bool true,.bool big] w fun e w'=>e=.returned (.tuple #[.agg #[.int .i64 (Yh l k big).1,.int .i64 (Yh l k big).2],.int .i64 0])∧An w w':=by
 have hnc:=hl.ncap;have hcm:=hl.nmax;have hlen:=A6 hl.len;have z1:((n:Int)==0)=false:=by simp;omega
 unfold maxLen at hcm;have hx:=An.alloc w (.cells #[.int .i64 0,.int .i64 0] 196);have hb0:=Aq.new w 196 #[.int .i64 0,.int .i64 0];have HR:=A6 (L8 (big:=big) (hl.ext hx) hn hk);obtain⟨a1,a2,a3,-⟩:=Kt (l:=l) (k:=k) (big:=big) (by rw[hlen.out];exact hk)
 rw[hlen.out]at a3;obtain⟨ad,rfl,hc⟩:=hl.at_ hk;have HC:=A6 hc;have hkk:Hid (B8 l big k=Bj (gI l k) big):=Gk (by rw[hlen.out];exact hk)
 have HIN:Hid (∀j:Nat,j<n→B8 l big j=Bj (gI l j) big):=A6 (fun j hj=>Gk (by rw[hlen.out];exact hj))
 clear hc;go_enter Tryz.func117,Tryz.ntmps117
 go_wp2_with fail
 refine HR.out.mono ?_
 rintro e w1 ⟨rfl,he1⟩;have hT:=An.alloc w1 (.cells #[.int .i64 (Do l k big),.int .i64 (Ci l k big)] 196);have hq:=(hb0.ext he1).ext hT;have hr:=Aq.new w1 196 #[.int .i64 (Do l k big),.int .i64 (Ci l k big)];have hef:=(hx.trans he1).trans hT;have hlX:=hl.ext hef;have hw1:w.heap.size<w1.heap.size:=(hb0.ext he1).lt;have d1:=hef.cell (HC.out k hk);clear HR hb0 hx he1 hl;rw[show H7 l big (B8 l big k) k=Do l k big from rfl,show Et l big (B8 l big k) k=Ci l k big from rfl]
 go_wp2_with fail
 revert hT hq hr hef hlX d1
 generalize w1.alloc (.cells #[.int .i64 (Do l k big),.int .i64 (Ci l k big)] 196)=w2;intro hT hq hr hef hlX d1;refine(Hz _ _ _).mono ?_
 rintro e w3 ⟨rfl,rfl⟩;clear d1;have c0:=hr.cell 0;have c1:=hr.cell 1;simp only[Ah,Af,Ag]at c0 c1;rcases Ay (Ci l k big) n with hlt|hge
 ·have dT:=hef.cell (HC.out _ hlt)
  by_cases hbl:Bj (gI l k) big=0
  ·have b1:(Bj (gI l k) big==0)=true:=by simpa using hbl
   have HW:Hid (Yh l k big=(Do l k big,Ci l (Ci l k big) big)):=A6 (by unfold Yh;rw[if_pos ⟨by rw[hlen.out];exact hlt,.inl (by rw[hkk.out];exact hbl)⟩])
   clear hbl;go_wp2_with fail
   refine(L8 (k:=(Ci l k big)) (big:=big) hlX hn hlt).mono ?_
   rintro e w3 ⟨rfl,he3⟩;rw[show H7 l big (B8 l big ((Ci l k big):Nat)) (Ci l k big)=Do l (Ci l k big) big from rfl,show Et l big (B8 l big ((Ci l k big):Nat)) (Ci l k big)=Ci l (Ci l k big) big from rfl]
   have hq3:=hq.ext he3;have hr3:=hr.ext he3;have hef3:=hef.trans he3;have g0:=hr3.frozen 1;have e0:=hr3.cell 0;have e1:=hr3.cell 1;have f0:=hq3.frozen 0;have f1:=hq3.frozen 1;have c4:=hq3.cell 0;have c5:=hq3.cell 1;simp only[Ah,Af,Ag]at c4 c5 e0 e1;clear c0 c1;have n1:¬w1.heap.size=w.heap.size:=by omega
   have n2:¬w.heap.size=w1.heap.size:=by omega
   have hfd:=Th (.int .i64 (Do l (Ci l k big) big)) (.int .i64 (Ci l (Ci l k big) big)) w3;go_wp2_with fail
   have hbf:Aq (((w3.setCell ⟨w1.heap.size,1,none⟩ (.int .i64 (Ci l (Ci l k big) big))).setCell ⟨w.heap.size,0,none⟩ (.int .i64 (Do l k big))).setCell ⟨w.heap.size,1,none⟩ (.int .i64 (Ci l (Ci l k big) big))) w.heap.size 196 #[.int .i64 (Do l k big),.int .i64 (Ci l (Ci l k big) big)]:=by
    exact I48
   have c6:=hbf.cell 0;have c7:=hbf.cell 1;simp only[Ah,Af,Ag]at c6 c7;clear c4 c5 f0 f1 e0 e1 g0 hfd hbf;refine bodyPost_ret (by simp[results,Tryz.results117,go_sem,c6,c7];try rfl) rfl ?_
   exact⟨by rw[HW.out]<;>rfl,((hef3.setCell (p:=⟨w1.heap.size,1,none⟩) (Nat.le_of_lt hw1) _).setCell (by simp) _).setCell (by simp) _⟩
  ·have N0:=trivial;exact K11
 ·have N1:=trivial;exact K11
def ofW (l:List Int)(k:Nat)(ar big:Bool)(x y er:Int):Prop:=
 (k<l.length∧er=0∧x=(if ar=true then(Yh l k big).1 else Do l k big:Nat)∧y=(if ar=true then(Yh l k big).2 else Ci l k big:Nat))∨(l.length=0∧er=6∧x=0∧y=0)
def ofB (l:List Int)(k:Nat)(ar:Bool)(o:Int)(x y er:Int):Prop:=
 (∃i b:Nat,Wz l k o i b∧er=0∧x=(if ar=true then(i:Int)else(i:Int)+1)∧y=(if ar=true then(b:Int)+1 else b))∨(U7 l k o∧er=6∧x=0∧y=0)
def ofQ (l:List Int)(k:Nat)(ar:Bool)(q:Int)(x y er:Int):Prop:=
 (∃f t:Nat,Se l k q f t∧er=0∧x=(if ar=true then(f:Int)else(f:Int)+1)∧y=(if ar=true then(t:Int)+1 else t))∨(tP l k q∧er=6∧x=0∧y=0)
theorem lO {i b i' b':Nat}(h:Wz l k o i b)(h':Wz l k o i' b'):i=i'∧b=b':=by
 obtain⟨h1,h2,h3,h4,h5,h6,h7⟩:=h;obtain⟨g1,g2,g3,g4,g5,g6,g7⟩:=h';have e:i=i':=by
  rcases Nat.lt_trichotomy i i' with h|h|h
  ·have:=h7 i' h g1 g2 g3;omega
  ·exact h
  ·have:=g7 i h h1 h2 h3;omega
 subst e;exact⟨rfl,by omega⟩
theorem Xw {i b:Nat}(h:Wz l k o i b):¬U7 l k o:=fun h'=>by
 obtain⟨h1,h2,h3,h4,h5,h6,h7⟩:=h;have:=h' i h1 h2 h3;omega
theorem dJ {c:Nat}{ar big:Bool}:
 Calls Tryz.prog 117 #[.slice A 0 c,.int .i64 k,.bool ar,.bool big] w fun e w'=>e=.returned (.tuple #[.agg #[.int .i64 0,.int .i64 0],.int .i64 6])∧An w w':=by
 have hx:=An.alloc w (.cells #[.int .i64 0,.int .i64 0] 196);have hq:=Aq.new w 196 #[.int .i64 0,.int .i64 0];have hbf:Aq (((w.alloc (.cells #[.int .i64 0,.int .i64 0] 196)).setCell ⟨w.heap.size,0,none⟩ (.int .i64 0)).setCell ⟨w.heap.size,1,none⟩ (.int .i64 0)) w.heap.size 196 #[.int .i64 0,.int .i64 0]:=by
  simpa using(hq.set_ 0 (.int .i64 0)).set_ 1 (.int .i64 0)
 have c6:=hbf.cell 0;have c7:=hbf.cell 1;simp only[List.getElem?_toArray,List.getElem?_cons_zero,List.getElem?_cons_succ]at c6 c7;clear hbf hq;go_enter Tryz.func117,Tryz.ntmps117
 go_wp2_with fail
 refine bodyPost_ret (by simp[results,Tryz.results117,go_sem,c6,c7];try rfl) rfl ?_
 first
  |exact⟨rfl,hx⟩
  |exact⟨rfl,(hx.setCell (by simp) _).setCell (by simp) _⟩
def nD (l:List Int)(k:Nat)(ar:Bool)(key:Int)(x y er:Int):Prop:=
 (key=119∧ofW l k ar false x y er)∨(key=87∧ofW l k ar true x y er)∨((key=34∨key=39∨key=96)∧ofQ l k ar key x y er)∨
  ((key=40∨key=41∨key=91∨key=93∨key=123∨key=125)∧ofB l k ar (xI key) x y er)∨(Ud key∧x=0∧y=0∧er=9)
theorem X8 {ar big:Bool}(hl:Bl w A n c l)(hn:n≤4096)(hk:k=0∨k<n):
 Calls Tryz.prog 117 #[.slice A n c,.int .i64 k,.bool ar,.bool big] w fun e w'=>(∃x y er,ofW l k ar big x y er∧e=.returned (.tuple #[.agg #[.int .i64 x,.int .i64 y],.int .i64 er]))∧An w w':=by
 have hlen:=hl.len;rcases Nat.eq_zero_or_pos n with h0|h0
 ·subst h0
  exact dJ.mono fun e w' ⟨h1,h2⟩=>⟨⟨0,0,6,.inr ⟨hlen,rfl,rfl,rfl⟩,h1⟩,h2⟩
 ·cases ar with
  |false=>exact(oN hl hn (by omega)).mono fun e w' ⟨h1,h2⟩=>⟨⟨_,_,0,.inl ⟨by omega,rfl,by simp,by simp⟩,h1⟩,h2⟩
  |true=>exact(jH hl hn (by omega)).mono fun e w' ⟨h1,h2⟩=>⟨⟨_,_,0,.inl ⟨by omega,rfl,by simp,by simp⟩,h1⟩,h2⟩
theorem Zg (hl:Bl w A n c l)(wl:∀x∈l,(Lit.int .i64 x).wf=true)(hn:n≤4096)(hk:k=0∨k<n):
 Calls Tryz.prog 118 #[.slice A n c,.int .i64 k,.bool ar,.int .i64 o] w fun e w'=>(∃x y er,ofB l k ar o x y er∧e=.returned (.tuple #[.agg #[.int .i64 x,.int .i64 y],.int .i64 er]))∧An w w':=by
 cases ar with
 |false=>exact(cI hl wl hn hk).mono fun e w' ⟨h1,h2⟩=>⟨by
  rcases h1 with⟨i,b,h,e⟩|⟨h,e⟩
  ·exact⟨_,_,0,.inl ⟨i,b,h,rfl,by simp,by simp⟩,e⟩
  ·exact⟨0,0,6,.inr ⟨h,rfl,rfl,rfl⟩,e⟩,h2⟩
 |true=>exact(Zh hl wl hn hk).mono fun e w' ⟨h1,h2⟩=>⟨by
  rcases h1 with⟨i,b,h,e⟩|⟨h,e⟩
  ·exact⟨_,_,0,.inl ⟨i,b,h,rfl,by simp,by simp⟩,e⟩
  ·exact⟨0,0,6,.inr ⟨h,rfl,rfl,rfl⟩,e⟩,h2⟩
theorem eE (hl:Bl w A n c l)(hn:n≤4096):
 Calls Tryz.prog 119 #[.slice A n c,.int .i64 k,.bool ar,.int .i64 q] w fun e w'=>(∃x y er,ofQ l k ar q x y er∧e=.returned (.tuple #[.agg #[.int .i64 x,.int .i64 y],.int .i64 er]))∧An w w':=
 (kJ hl hn).mono fun e w' ⟨h1,h2⟩=>⟨by
  rcases h1 with⟨f,t,h,e⟩|⟨h,e⟩
  ·exact⟨_,_,0,.inl ⟨f,t,h,rfl,rfl,rfl⟩,e⟩
  ·exact⟨0,0,6,.inr ⟨h,rfl,rfl,rfl⟩,e⟩,h2⟩
theorem Xp (hl:Bl w A n c l)(wl:∀x∈l,(Lit.int .i64 x).wf=true)(hn:n≤4096)(hk:k=0∨k<n):
 Calls Tryz.prog 75 #[.slice A n c,.int .i64 k,.bool ar,.int .i64 key] w fun e w'=>(∃x y er,nD l k ar key x y er∧e=.returned (.tuple #[.int .i64 x,.int .i64 y,.int .i64 er]))∧An w w':=by
 have hx:=An.alloc w (.cells #[.int .i64 0,.int .i64 0] 196);by_cases h1:key=119
 ·exact(nT (big:=false) hl.ncap hl.nmax hn hk (.inl ⟨h1,rfl⟩) (A6 (X8 (hl.ext hx) hn hk))).mono fun e w' ⟨⟨x,y,er,h2,h3⟩,h4⟩=>⟨⟨x,y,er,.inl ⟨h1,h2⟩,h3⟩,h4⟩
 by_cases h2:key=87
 ·exact(nT (big:=true) hl.ncap hl.nmax hn hk (.inr ⟨h2,rfl⟩) (A6 (X8 (hl.ext hx) hn hk))).mono fun e w' ⟨⟨x,y,er,h3,h4⟩,h5⟩=>⟨⟨x,y,er,.inr (.inl ⟨h2,h3⟩),h4⟩,h5⟩
 by_cases h3:key=34∨key=39∨key=96
 ·exact(zQ hl.ncap hl.nmax hn hk h3 (A6 (eE (hl.ext hx) hn))).mono fun e w' ⟨⟨x,y,er,h4,h5⟩,h6⟩=>⟨⟨x,y,er,.inr (.inr (.inl ⟨h3,h4⟩)),h5⟩,h6⟩
 by_cases h4:key=40∨key=41∨key=91∨key=93∨key=123∨key=125
 ·exact(zS hl.ncap hl.nmax hn hk h4 (A6 (Zg (hl.ext hx) wl hn hk))).mono fun e w' ⟨⟨x,y,er,h5,h6⟩,h7⟩=>⟨⟨x,y,er,.inr (.inr (.inr (.inl ⟨h4,h5⟩))),h6⟩,h7⟩
 have hno:Ud key:=by unfold Ud;omega
 exact(zR hl.ncap hl.nmax hn hk hno).mono fun e w' ⟨h5,h6⟩=>⟨⟨0,0,9,.inr (.inr (.inr (.inr ⟨hno,rfl,rfl,rfl⟩))),h5⟩,h6⟩
end
