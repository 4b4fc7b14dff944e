/-
  Part ZMotS.
-/
import Derived.Test.YtkaefdmhlmlhbaaGreatZMapV
import Derived.IntWalk
set_option maxRecDepth 100000
set_option maxHeartbeats 16000000
set_option linter.unusedVariables false
set_option linter.unusedSimpArgs false
namespace Go.Proofs.YtkaefdmhlmlhbaaGreat
open Go.RowKit
open _root_.Go.Proofs.Tryz
open _root_.Nat renaming eq_zero_or_pos→Br,le_refl→Aj,lt_or_ge→Ay,ne_of_gt→J7j
open _root_.List renaming getElem?_cons_succ→Ag,getElem?_cons_zero→Af,getElem?_toArray→Ah
section
variable {A:Option Addr}{w:World}{n c k:Nat}{l:List Int}{R:Option (Nat×Bool)→Prop}{key arg o q:Int}{op ar big:Bool}
theorem wA (args:Array Value)(w:World):Sem.run prog (callFunc 180 args) w=.ok (.enter 180 args) w:=rfl
theorem wB (args:Array Value)(w:World):Sem.run prog (callFunc 133 args) w=.ok (.enter 133 args) w:=rfl
theorem J0s (args:Array Value)(w:World):Sem.run prog (callFunc 181 args) w=.ok (.enter 181 args) w:=rfl
section
variable {l:List Int} {A:Option Addr} {n c:Nat} {k g:Nat} {op big:Bool} {w:World}
theorem Xc (hl:Bj w A n c l)(hn:n≤4096)(hk:k≤n)(bj:g≤4096)(w1:World)(he:An w w1):
 Calls prog 170 #[.agg #[.slice A n c,k,g,op],.func (.func 180) #[] #[],.bool big] w1 fun e w'=>e=.returned (.int .i64 (Rb (Gk l · big) g k))∧An w1 w':=
 Wb (s:=(Gk l · big)) (hl.ext he) hn hk bj (A6 wA) (A6 (fun j hj=>by have:=St (l:=l) (k:=j) (big:=big) (by rw[hl.len];exact hj);rw[hl.len]at this;exact this)) (A6 fun w2 j hj h2=>sM h2 hn hj)
theorem Xd (hl:Bj w A n c l)(hn:n≤4096)(hk:k≤n)(bj:g≤4096)(w1:World)(he:An w w1):
 Calls prog 170 #[.agg #[.slice A n c,k,g,op],.func (.func 133) #[] #[],.bool big] w1 fun e w'=>e=.returned (.int .i64 (Rb (Gr l · big) g k))∧An w1 w':=
 Wb (s:=(Gr l · big)) (hl.ext he) hn hk bj (A6 wB) (A6 (fun j hj=>Nat.le_trans (Ni (by rw[hl.len];exact hj)) hj)) (A6 fun w2 j hj h2=>cF h2 hn hj)
theorem Yz (hl:Bj w A n c l)(hn:n≤4096)(hk:k≤n)(bj:g≤4096)(w1:World)(he:An w w1):
 Calls prog 170 #[.agg #[.slice A n c,k,g,op],.func (.func 181) #[] #[],.bool big] w1 fun e w'=>e=.returned (.int .i64 (Rb (D0 l · big) g k))∧An w1 w':=
 Wb (s:=(D0 l · big)) (hl.ext he) hn hk bj (A6 J0s) (A6 (fun j hj=>by have:=lN (l:=l) (k:=j) (big:=big) (by rw[hl.len];exact hj);rw[hl.len]at this;exact this)) (A6 fun w2 j hj h2=>yF h2 hn hj)
theorem Jj {P:Program}{f:FuncId}{args:Array Value}{R:Option (Nat×Bool)→Prop}{o:Option (Nat×Bool)}(h:Calls P f args w fun e w'=>e=Ef o∧An w w')(ho:R o):
 Calls P f args w fun e w'=>(∃o,R o∧e=Ef o)∧An w w':=h.mono fun _ _ ⟨h1,h2⟩=>⟨⟨o,ho,h1⟩,h2⟩
theorem nT {key:Int}(hl:Bj w A n c l)(wl:∀x∈l,(Lit.int .i64 x).wf=true)(hn:n≤4096)(hk:k≤n)(cb:1≤g)(bj:g≤4096)(fg:Ld key=true):
 Calls prog 146 #[.agg #[.slice A n c,k,g,op],.int .i64 key] w fun e w'=>(∃o,Ch l k key g op o∧e=Ef o)∧An w w':=by
 have aw:=hl.ncap;have aq:=hl.nmax;have ab:=hl.len;have hX1:∀big,Rb (Gk l · big) g k≤n:=fun big=>by rw[←ab];exact Nq (fun k hk=>St hk) g (by omega)
 have hX2:∀big,Rb (D0 l · big) g k≤n:=fun big=>by rw[←ab];exact Nq (fun k hk=>lN hk) g (by omega)
 unfold Ld at fg;rw[decide_eq_true_eq]at fg;rcases fg with rfl|rfl|rfl|rfl|rfl|rfl|rfl|rfl|rfl|rfl|rfl|rfl|rfl
 ·skip
  rcases Br k with h0|h0
  ·exact Jj (R:=Ch l k _ g op) (J5u (l:=l) aw aq hn hk cb bj h0) (by simp[Ch,F1,h0])
  ·exact Jj (R:=Ch l k _ g op) (J5t (l:=l) aw aq hn hk cb bj h0) (by simp[Ch,F1,J7j h0])
 ·skip
  exact Jj (R:=Ch l k _ g op) (J3v (l:=l) aw aq hn hk cb bj (A6 fun w1 _=>bH aw aq hn hk cb bj)) (by simp[Ch,F1,ab])
 ·skip
  exact Jj (R:=Ch l k _ g op) (J6v (l:=l) aw aq hn hk cb bj) (by simp[Ch,F1])
 ·skip
  exact Jj (R:=Ch l k _ g op) (J5w (l:=l) aw aq hn hk cb bj (A6 fun w1 he=>vV (hl.ext he) hn)) (by simp[Ch,F1])
 ·skip
  rcases Br n with h0|h0
  ·exact Jj (R:=Ch l k _ g op) (J3s (l:=l) aw aq hn hk cb bj h0) (by simp[Ch,F1,ab,h0])
  ·exact Jj (R:=Ch l k _ g op) (J6b (l:=l) aw aq hn hk cb bj h0) (by simp[Ch,F1,ab,J7j h0])
 ·skip
  rcases Br n with h0|h0
  ·exact Jj (R:=Ch l k _ g op) (yY (l:=l) aw aq hn hk cb bj h0) (by simp[Ch,F1,ab,h0])
  ·exact Jj (R:=Ch l k _ g op) (J3t (l:=l) aw aq hn hk cb bj h0) (by simp[Ch,F1,ab,J7j h0])
 ·skip
  rcases Br n with h0|h0
  ·exact Jj (R:=Ch l k _ g op) (yZ (l:=l) aw aq hn hk cb bj h0) (by simp[Ch,F1,ab,h0])
  ·exact Jj (R:=Ch l k _ g op) (J3u (l:=l) aw aq hn hk cb bj h0 (A6 fun w1 he=>cE aw aq hn hk h0 (hX1 _) (A6 fun w2 au=>Xc hl hn hk bj w2 (he.trans au)))) (by simp[Ch,F1,ab,J7j h0])
 ·skip
  rcases Br n with h0|h0
  ·exact Jj (R:=Ch l k _ g op) (J3o (l:=l) aw aq hn hk cb bj h0) (by simp[Ch,F1,ab,h0])
  ·exact Jj (R:=Ch l k _ g op) (J5x (l:=l) aw aq hn hk cb bj h0 (A6 fun w1 he=>cE aw aq hn hk h0 (hX1 _) (A6 fun w2 au=>Xc hl hn hk bj w2 (he.trans au)))) (by simp[Ch,F1,ab,J7j h0])
 ·skip
  rcases Br k with h0|h0
  ·exact Jj (R:=Ch l k _ g op) (J3n (l:=l) aw aq hn hk cb bj h0) (by simp[Ch,F1,h0])
  ·exact Jj (R:=Ch l k _ g op) (J5v (l:=l) aw aq hn hk cb bj h0 (A6 (Xd hl hn hk bj))) (by simp[Ch,F1,J7j h0])
 ·skip
  rcases Br k with h0|h0
  ·exact Jj (R:=Ch l k _ g op) (J3q (l:=l) aw aq hn hk cb bj h0) (by simp[Ch,F1,h0])
  ·exact Jj (R:=Ch l k _ g op) (J5z (l:=l) aw aq hn hk cb bj h0 (A6 (Xd hl hn hk bj))) (by simp[Ch,F1,J7j h0])
 ·skip
  rcases Br n with h0|h0
  ·exact Jj (R:=Ch l k _ g op) (zA (l:=l) aw aq hn hk cb bj h0) (by simp[Ch,F1,ab,h0])
  ·exact Jj (R:=Ch l k _ g op) (J3w (l:=l) aw aq hn hk cb bj h0 (A6 fun w1 he=>lL aw aq hn hk h0 (hX2 _) (A6 fun w2 au=>Yz hl hn hk bj w2 (he.trans au)))) (by simp[Ch,F1,ab,J7j h0])
 ·skip
  rcases Br n with h0|h0
  ·exact Jj (R:=Ch l k _ g op) (J3p (l:=l) aw aq hn hk cb bj h0) (by simp[Ch,F1,ab,h0])
  ·exact Jj (R:=Ch l k _ g op) (J5y (l:=l) aw aq hn hk cb bj h0 (A6 fun w1 he=>lL aw aq hn hk h0 (hX2 _) (A6 fun w2 au=>Yz hl hn hk bj w2 (he.trans au)))) (by simp[Ch,F1,ab,J7j h0])
 ·skip
  rcases Br n with h0|h0
  ·exact Jj (J3r (l:=l) aw aq hn hk cb bj h0) (by unfold Ch;rw[if_pos rfl];exact .inr ⟨fun i _ h2=>absurd h2 (by rw[ab];omega),rfl⟩)
  ·exact J6a (l:=l) (R:=Ch l k 37 g op) aw aq hn hk cb bj h0 (A6 fun w1 he=>(iG (hl.ext he) wl hn hk).mono fun e w' ⟨h1,h2⟩=>⟨by
    rcases h1 with⟨i,m,hf,rfl⟩|⟨du,rfl⟩
    ·exact⟨some (m,true),by unfold Ch;rw[if_pos rfl];exact .inl ⟨i,m,hf,rfl⟩,rfl⟩
    ·exact⟨none,by unfold Ch;rw[if_pos rfl];exact .inr ⟨du,rfl⟩,rfl⟩,h2⟩)
theorem oY {key arg:Int}(hl:Bj w A n c l)(hn:n≤4096)(hk:k≤n)(cb:1≤g)(bj:g≤4096)(fg:Kg key=true):
 Calls prog 145 #[.agg #[.slice A n c,k,g,op],.int .i64 key,.int .i64 arg] w fun e w'=>(∃o,o=aP l k key arg g∧e=Ef o)∧An w w':=by
 have aw:=hl.ncap;have aq:=hl.nmax;have ab:=hl.len;have HR:∀w1,An w w1→Calls prog 167 #[.agg #[.slice A n c,k,g,op],.int .i64 arg,.int .i64 1] w1 fun e w'=>e=Rs (Jp l arg (n-(k+1)) (k+1) g)∧An w1 w':=fun w1 he=>jG (hl.ext he) hn hk cb bj
 have HL:∀w1,An w w1→Calls prog 167 #[.agg #[.slice A n c,k,g,op],.int .i64 arg,.int .i64 (-1)] w1 fun e w'=>e=Rs (Kr l arg k g)∧An w1 w':=fun w1 he=>pE (hl.ext he) hn hk cb bj
 have b1:∀j,Jp l arg (n-(k+1)) (k+1) g=some j→1≤j∧j≤4096:=fun j h=>by have:=Sv h;omega
 have b2:∀j,Kr l arg k g=some j→j≤4096:=fun j h=>by have:=Sw h;omega
 unfold Kg at fg;rw[decide_eq_true_eq]at fg;unfold aP;rw[ab];generalize Jp l arg (n-(k+1)) (k+1) g=x at*;generalize Kr l arg k g=y at*;rcases fg with rfl|rfl|rfl|rfl
 ·rcases x with _|j
  ·exact Jj (R:=fun o=>o=_) (J0q (l:=l) aw aq hn hk cb bj (A6 HR)) (by simp)
  ·exact Jj (R:=fun o=>o=_) (J0p (l:=l) aw aq hn hk cb bj (b1 j rfl) (A6 HR)) (by simp)
 ·rcases x with _|j
  ·exact Jj (R:=fun o=>o=_) (J0o (l:=l) aw aq hn hk cb bj (A6 HR)) (by simp)
  ·exact Jj (R:=fun o=>o=_) (J0n (l:=l) aw aq hn hk cb bj (b1 j rfl) (A6 HR)) (by simp)
 ·rcases y with _|j
  ·exact Jj (R:=fun o=>o=_) (J4v (l:=l) aw aq hn hk cb bj (A6 HL)) (by simp)
  ·exact Jj (R:=fun o=>o=_) (J4u (l:=l) aw aq hn hk cb bj (b2 j rfl) (A6 HL)) (by simp)
 ·rcases y with _|j
  ·exact Jj (R:=fun o=>o=_) (J4t (l:=l) aw aq hn hk cb bj (A6 HL)) (by simp)
  ·exact Jj (R:=fun o=>o=_) (J4s (l:=l) aw aq hn hk cb bj (b2 j rfl) (A6 HL)) (by simp)
end
theorem Zi (key:Int)(w:World):Calls prog 144 #[.int .i64 key] w fun e w'=>e=.returned (.tuple #[.bool (Ld key||Kg key),.bool (Kg key)])∧w=w':=by
 by_cases h:key=104∨key=108∨key=48∨key=94∨key=36∨key=124∨key=119∨key=87∨key=98∨key=66∨key=101∨key=69∨key=37∨key=102∨key=116∨key=70∨key=84
 ·rcases h with rfl|rfl|rfl|rfl|rfl|rfl|rfl|rfl|rfl|rfl|rfl|rfl|rfl|rfl|rfl|rfl|rfl
  all_goals
   go_enter func144,ntmps144
   go_wp2_with fail
   go_ret2
   exact⟨rfl,rfl⟩
 ·have H:Hid (Ld key=false∧Kg key=false):=A6 ⟨by unfold Ld;simp;omega,by unfold Kg;simp;omega⟩
  simp only[not_or]at h;obtain⟨h1,h2,h3,h4,h5,h6,h7,h8,h9,vz,Og,SQ,td,h14,DT,h16,h17⟩:=h;have g1:(key==104)=false:=by simpa using h1
  have g2:(key==108)=false:=by simpa using h2
  have g3:(key==48)=false:=by simpa using h3
  have g4:(key==94)=false:=by simpa using h4
  have g5:(key==36)=false:=by simpa using h5
  have g6:(key==124)=false:=by simpa using h6
  have g7:(key==119)=false:=by simpa using h7
  have g8:(key==87)=false:=by simpa using h8
  have g9:(key==98)=false:=by simpa using h9
  have g10:(key==66)=false:=by simpa using vz
  have g11:(key==101)=false:=by simpa using Og
  have g12:(key==69)=false:=by simpa using SQ
  have g13:(key==37)=false:=by simpa using td
  have g14:(key==102)=false:=by simpa using h14
  have g15:(key==116)=false:=by simpa using DT
  have g16:(key==70)=false:=by simpa using h16
  have g17:(key==84)=false:=by simpa using h17
  rw[H.out.1,H.out.2];clear h1 h2 h3 h4 h5 h6 h7 h8 h9 vz Og SQ td h14 DT h16 h17;go_enter func144,ntmps144
  go_wp2_with fail
  go_ret2
  exact⟨rfl,rfl⟩
def Ya:Option (Nat×Bool)→Ending
 |some (a,i)=>.returned (.tuple #[a,i,(0:Int)])
 |none=>.returned (.tuple #[(0:Int),false,(5:Int)])
theorem Zd (a:Nat)(i:Bool):Ya (some (a,i))=.returned (.tuple #[a,i,(0:Int)]):=rfl
theorem Ze:Ya none=.returned (.tuple #[(0:Int),false,(5:Int)]):=rfl
def Yk (n:Nat)(k key cnt:Int):Prop:=n≤4096∧0≤k∧(k=0∨k<n)∧0≤cnt∧cnt≤999∧(Ld key||Kg key)=true
theorem Xn {k key cnt arg:Int}(aw:n≤c)(aq:c≤maxLen):
 Calls prog 143 #[.slice A n c,.int .i64 k,.agg #[key,cnt,arg]] w fun e w'=>(∃er:Int,e=.returned (.int .i64 er)∧((er=0∧Yk n k key cnt)∨((er !=0)=true∧¬Yk n k key cnt)))∧An w w':=by
 unfold maxLen at aq;by_cases hn:4096<n
 ·have HN:Hid (¬Yk n k key cnt):=A6 (fun h=>by have:=h.1;omega)
  go_enter func143,ntmps143
  exact I115
 by_cases hk:k<0∨(0<k∧(n:Int)≤k)∨cnt<0∨999<cnt
 ·have HN:Hid (¬Yk n k key cnt):=A6 (fun h=>by obtain⟨_,h1,h2,h3,h4,_⟩:=h;omega)
  have hp:∀v:Int,Hid (k<0∨(0<k∧(n:Int)≤k)∨cnt<0∨999<cnt):=fun _=>A6 hk
  clear hk;go_enter func143,ntmps143
  go_wp2_with fail
  all_goals (try(exfalso;have:=(hp 0).out;omega))
  all_goals
   go_ret
   exact⟨⟨1,rfl,.inr ⟨by decide,HN.out⟩⟩,An.alloc _ _⟩
 ·have hm:k≤if(1:Int)<n then(n:Int)-1 else 0:=by split<;>omega
  have HK:=A6 (Zi key (w.alloc (.cells #[key,cnt,arg] 185)));rcases hb:(Ld key||Kg key)with _|_
  ·have HN:Hid (¬Yk n k key cnt):=A6 (fun h=>by have:=h.2.2.2.2.2;rw[hb]at this;cases this)
   rw[hb]at HK;have h1:¬k<0:=by omega
   have h2:¬cnt<0:=by omega
   have h3:¬999<cnt:=by omega
   clear hb hk;go_enter func143,ntmps143
   go_wp2_with fail
   all_goals
    refine HK.out.mono ?_
    rintro e w1 ⟨rfl,rfl⟩;exact I115
  ·have HN:Hid (Yk n k key cnt):=A6 ⟨by omega,by omega,by omega,by omega,by omega,hb⟩
   rw[hb]at HK;have h1:¬k<0:=by omega
   have h2:¬cnt<0:=by omega
   have h3:¬999<cnt:=by omega
   clear hb hk;go_enter func143,ntmps143
   go_wp2_with fail
   all_goals
    refine HK.out.mono ?_
    rintro e w1 ⟨rfl,rfl⟩;go_wp2_with fail
    go_ret
    exact⟨⟨_,rfl,.inl ⟨rfl,HN.out⟩⟩,An.alloc _ _⟩
theorem iN   
 (HC:Hid (∀w:World,Calls prog 143 #[.slice A n c,.int .i64 k,.agg #[key,(0:Int),arg]] w fun e w'=>e=.returned (.int .i64 0)∧An w w'))
 (HK:Hid (∀w:World,Calls prog 144 #[.int .i64 key] w fun e w'=>e=.returned (.tuple #[true,false])∧w=w'))
 (HP:Hid (∀w1:World,An w w1→Calls prog 146 #[.agg #[.slice A n c,k,(1:Int),op],.int .i64 key] w1 fun e w'=>(∃o,R o∧e=Ef o)∧An w1 w')):
 Calls prog 108 #[.slice A n c,.int .i64 k,.agg #[key,(0:Int),arg],.bool op] w fun e w'=>(∃o,R o∧e=Ya o)∧An w w':=by
 have N0:=trivial;exact K17
theorem iM   
 (HC:Hid (∀w:World,Calls prog 143 #[.slice A n c,.int .i64 k,.agg #[key,(1:Int),arg]] w fun e w'=>e=.returned (.int .i64 0)∧An w w'))
 (HK:Hid (∀w:World,Calls prog 144 #[.int .i64 key] w fun e w'=>e=.returned (.tuple #[true,false])∧w=w'))
 (HP:Hid (∀w1:World,An w w1→Calls prog 146 #[.agg #[.slice A n c,k,(1:Int),op],.int .i64 key] w1 fun e w'=>(∃o,R o∧e=Ef o)∧An w1 w')):
 Calls prog 108 #[.slice A n c,.int .i64 k,.agg #[key,(1:Int),arg],.bool op] w fun e w'=>(∃o,R o∧e=Ya o)∧An w w':=by
 have N1:=trivial;exact K17
theorem iL {q:Nat}(bf:2≤q)
 (HC:Hid (∀w:World,Calls prog 143 #[.slice A n c,.int .i64 k,.agg #[key,q,arg]] w fun e w'=>e=.returned (.int .i64 0)∧An w w'))
 (HK:Hid (∀w:World,Calls prog 144 #[.int .i64 key] w fun e w'=>e=.returned (.tuple #[true,false])∧w=w'))
 (HP:Hid (∀w1:World,An w w1→Calls prog 146 #[.agg #[.slice A n c,k,q,op],.int .i64 key] w1 fun e w'=>(∃o,R o∧e=Ef o)∧An w1 w')):
 Calls prog 108 #[.slice A n c,.int .i64 k,.agg #[key,q,arg],.bool op] w fun e w'=>(∃o,R o∧e=Ya o)∧An w w':=by
 have N2:=trivial;exact K17
theorem iQ   
 (HC:Hid (∀w:World,Calls prog 143 #[.slice A n c,.int .i64 k,.agg #[key,(0:Int),arg]] w fun e w'=>e=.returned (.int .i64 0)∧An w w'))
 (HK:Hid (∀w:World,Calls prog 144 #[.int .i64 key] w fun e w'=>e=.returned (.tuple #[true,true])∧w=w'))
 (HP:Hid (∀w1:World,An w w1→Calls prog 145 #[.agg #[.slice A n c,k,(1:Int),op],.int .i64 key,.int .i64 arg] w1 fun e w'=>(∃o,R o∧e=Ef o)∧An w1 w')):
 Calls prog 108 #[.slice A n c,.int .i64 k,.agg #[key,(0:Int),arg],.bool op] w fun e w'=>(∃o,R o∧e=Ya o)∧An w w':=by
 have N3:=trivial;exact K17
theorem iP   
 (HC:Hid (∀w:World,Calls prog 143 #[.slice A n c,.int .i64 k,.agg #[key,(1:Int),arg]] w fun e w'=>e=.returned (.int .i64 0)∧An w w'))
 (HK:Hid (∀w:World,Calls prog 144 #[.int .i64 key] w fun e w'=>e=.returned (.tuple #[true,true])∧w=w'))
 (HP:Hid (∀w1:World,An w w1→Calls prog 145 #[.agg #[.slice A n c,k,(1:Int),op],.int .i64 key,.int .i64 arg] w1 fun e w'=>(∃o,R o∧e=Ef o)∧An w1 w')):
 Calls prog 108 #[.slice A n c,.int .i64 k,.agg #[key,(1:Int),arg],.bool op] w fun e w'=>(∃o,R o∧e=Ya o)∧An w w':=by
 have N4:=trivial;exact K17
theorem iO {q:Nat}(bf:2≤q)
 (HC:Hid (∀w:World,Calls prog 143 #[.slice A n c,.int .i64 k,.agg #[key,q,arg]] w fun e w'=>e=.returned (.int .i64 0)∧An w w'))
 (HK:Hid (∀w:World,Calls prog 144 #[.int .i64 key] w fun e w'=>e=.returned (.tuple #[true,true])∧w=w'))
 (HP:Hid (∀w1:World,An w w1→Calls prog 145 #[.agg #[.slice A n c,k,q,op],.int .i64 key,.int .i64 arg] w1 fun e w'=>(∃o,R o∧e=Ef o)∧An w1 w')):
 Calls prog 108 #[.slice A n c,.int .i64 k,.agg #[key,q,arg],.bool op] w fun e w'=>(∃o,R o∧e=Ya o)∧An w w':=by
 have N5:=trivial;exact K17
def Ti (l:List Int)(n:Nat)(k key cnt arg:Int)(op:Bool)(e:Ending):Prop:=
 (Yk n k key cnt∧∃o,Yl l k.toNat key arg (max 1 cnt).toNat op o∧e=Ya o)∨(¬Yk n k key cnt∧∃er:Int,(er !=0)=true∧e=.returned (.tuple #[(0:Int),false,er]))
theorem bK (h:Kg key=false)(h2:(Ld key||Kg key)=true):Ld key=true:=by
 rw[h]at h2;simpa using h2
theorem iR {k key cnt arg:Int}(aw:n≤c)(aq:c≤maxLen):
 (Yk n k key cnt∧∀w:World,Calls prog 143 #[.slice A n c,.int .i64 k,.agg #[key,cnt,arg]] w fun e w'=>e=.returned (.int .i64 0)∧An w w')∨
 (¬Yk n k key cnt∧∀w:World,Calls prog 143 #[.slice A n c,.int .i64 k,.agg #[key,cnt,arg]] w fun e w'=>(∃er:Int,(er !=0)=true∧e=.returned (.int .i64 er))∧An w w'):=by
 by_cases h:Yk n k key cnt
 ·refine .inl ⟨h,fun w=>(Xn aw aq).mono ?_⟩
  rintro e w' ⟨⟨er,rfl,⟨rfl,_⟩|⟨_,h2⟩⟩,h3⟩
  ·exact⟨rfl,h3⟩
  ·exact absurd h h2
 ·refine .inr ⟨h,fun w=>(Xn aw aq).mono ?_⟩
  rintro e w' ⟨⟨er,rfl,⟨_,h2⟩|⟨h1,_⟩⟩,h3⟩
  ·exact absurd h2 h
  ·exact⟨⟨er,h1,rfl⟩,h3⟩
theorem uO {k key cnt arg:Int}(hC:Hid (∀w:World,Calls prog 143 #[.slice A n c,.int .i64 k,.agg #[key,cnt,arg]] w fun e w'=>(∃er:Int,(er !=0)=true∧e=.returned (.int .i64 er))∧An w w')):
 Calls prog 108 #[.slice A n c,.int .i64 k,.agg #[key,cnt,arg],.bool op] w fun e w'=>(∃er:Int,(er !=0)=true∧e=.returned (.tuple #[(0:Int),false,er]))∧An w w':=by
 go_enter func108,ntmps108
 go_wp2_with fail
 refine(hC.out _).mono ?_
 rintro e w1 ⟨⟨er,ey,rfl⟩,aj⟩;go_wp2_with fail
 go_ret3
 exact⟨⟨er,ey,rfl⟩,(An.alloc _ _).trans aj⟩
theorem aW {k key cnt arg:Int}(hl:Bj w A n c l)(wl:∀x∈l,(Lit.int .i64 x).wf=true):
 Calls prog 108 #[.slice A n c,.int .i64 k,.agg #[key,cnt,arg],.bool op] w fun e w'=>Ti l n k key cnt arg op e∧An w w':=by
 have aw:=hl.ncap;have aq:=hl.nmax;rcases iR (A:=A) (n:=n) (c:=c) (k:=k) (key:=key) (cnt:=cnt) (arg:=arg) aw aq with⟨cw,hC⟩|⟨cw,hC⟩
 ·have FE:=cw
  obtain⟨hn,il,fv,z9,bh,fg⟩:=cw;obtain⟨kn,rfl⟩:=Int.eq_ofNat_of_zero_le il;obtain⟨q,rfl⟩:=Int.eq_ofNat_of_zero_le z9;have jc:kn≤n:=by omega
  have hK:=Zi key;rw[fg]at hK;have cn:∀{g:Nat} (hg:(max 1 (q:Int)).toNat=g),Calls prog 108 #[.slice A n c,.int .i64 kn,.agg #[key,q,arg],.bool op] w (fun e w'=>(∃o,Yl l kn key arg g op o∧e=Ya o)∧An w w')→
   Calls prog 108 #[.slice A n c,.int .i64 kn,.agg #[key,q,arg],.bool op] w fun e w'=>Ti l n kn key q arg op e∧An w w':=by
   intro g hg h;refine h.mono ?_
   rintro e w' ⟨h1,h2⟩;exact⟨.inl ⟨FE,by rw[hg];exact h1⟩,h2⟩
  rcases hf:Kg key with _|_
  ·rw[hf]at hK
   have hp:=bK hf fg;have HP:∀g:Nat,1≤g→g≤4096→∀w1:World,An w w1→Calls prog 146 #[.agg #[.slice A n c,kn,g,op],.int .i64 key] w1 fun e w'=>(∃o,Yl l kn key arg g op o∧e=Ef o)∧An w1 w':=by
    intro g h1 h2 w1 he;refine(nT (hl.ext he) wl hn jc h1 h2 hp).mono ?_
    exact I96
   rcases q with _|_|q
   ·exact cn (g:=1) (by omega) (iN (A6 hC) (A6 hK) (A6 (HP 1 (by omega) (by omega))))
   ·exact cn (g:=1) (by omega) (iM (A6 hC) (A6 hK) (A6 (HP 1 (by omega) (by omega))))
   ·exact cn (g:=q+2) (by omega) (iL (q:=q+2) (by omega) (A6 hC) (A6 hK) (A6 (HP (q+2) (by omega) (by omega))))
  ·rw[hf]at hK
   have HP:∀g:Nat,1≤g→g≤4096→∀w1:World,An w w1→Calls prog 145 #[.agg #[.slice A n c,kn,g,op],.int .i64 key,.int .i64 arg] w1 fun e w'=>(∃o,Yl l kn key arg g op o∧e=Ef o)∧An w1 w':=by
    intro g h1 h2 w1 he;refine(oY (hl.ext he) hn jc h1 h2 hf).mono ?_
    exact I96
   rcases q with _|_|q
   ·exact cn (g:=1) (by omega) (iQ (A6 hC) (A6 hK) (A6 (HP 1 (by omega) (by omega))))
   ·exact cn (g:=1) (by omega) (iP (A6 hC) (A6 hK) (A6 (HP 1 (by omega) (by omega))))
   ·exact cn (g:=q+2) (by omega) (iO (q:=q+2) (by omega) (A6 hC) (A6 hK) (A6 (HP (q+2) (by omega) (by omega))))
 ·refine(uO (A6 hC)).mono ?_
  rintro e w' ⟨h1,h2⟩;exact⟨.inr ⟨cw,h1⟩,h2⟩
def Lj (l:List Int)(n:Nat)(k key cnt arg:Int)(e:Ending):Prop:=
 (∃er:Int,(er !=0)=true∧e=.returned (.tuple #[(0:Int),(0:Int),er])∧(Yk n k key cnt→Yl l k.toNat key arg (max 1 cnt).toNat true none))∨
 (Yk n k key cnt∧∃(a:Nat) (i:Bool),Yl l k.toNat key arg (max 1 cnt).toNat true (some (a,i))∧a≤n∧(i=true→a<n)∧
  ∃lo hi:Int,lo=min k a∧hi=max k a+(if i=true then 1 else 0)∧e=.returned (.tuple #[lo,hi,(0:Int)]))
theorem oE {k key cnt arg:Int}(hl:Bj w A n c l)(wl:∀x∈l,(Lit.int .i64 x).wf=true):
 Calls prog 109 #[.slice A n c,.int .i64 k,.agg #[key,cnt,arg]] w fun e w'=>Lj l n k key cnt arg e∧An w w':=by
 have ab:=A6 hl.len;have hx:=An.alloc w (.cells #[key,cnt,arg] 185);have HG:=A6 (aW (k:=k) (key:=key) (cnt:=cnt) (arg:=arg) (op:=true) (hl.ext hx) wl);clear wl hl;go_enter func109,ntmps109
 go_wp2_with fail
 refine HG.out.mono ?_
 rintro e w1 ⟨⟨cw,o,hR,he⟩|⟨cw,er,ey,rfl⟩,aj⟩
 ·have HO:=A6 cw
  have HR:=A6 hR;clear cw hR HG;rcases o with _|⟨a,i⟩
  ·rw[Ze]at he
   subst he;go_wp2_with fail
   go_ret3
   exact⟨.inl ⟨5,rfl,rfl,fun _=>HR.out⟩,hx.trans aj⟩
  ·rw[Zd]at he
   subst he;have hb:=rU (l:=l) (by have:=HO.out;obtain⟨_,h1,h2,_⟩:=this;rw[ab.out];omega) (by omega) HR.out rfl
   rw[ab.out]at hb;have HB:=A6 hb;have hk:Hid (0≤k∧(k=0∨k<n)∧n≤4096):=A6 ⟨HO.out.2.1,HO.out.2.2.1,HO.out.1⟩;have ha:=hb.1;have fv:=hk.out.1;have hn:=hk.out.2.2;have fx:k≤n:=by have:=hk.out.2.1;omega
   clear hb;cases i
   ·go_wp2_with fail
    all_goals
     go_ret3
     exact⟨.inr ⟨HO.out,a,false,HR.out,HB.out.1,HB.out.2.2,_,_,by omega,by simp;omega,rfl⟩,hx.trans aj⟩
   ·go_wp2_with fail
    all_goals
     go_ret3
     exact⟨.inr ⟨HO.out,a,true,HR.out,HB.out.1,fun _=>HB.out.2.2 trivial,_,_,by omega,by simp;omega,rfl⟩,hx.trans aj⟩
 ·have HO:=A6 cw
  clear cw HG;go_wp2_with fail
  go_ret3
  exact⟨.inl ⟨er,ey,rfl,fun h=>absurd h HO.out⟩,hx.trans aj⟩
theorem iB {n:Nat}{k key cnt arg:Int}{e:Ending}(h:Lj l n k key cnt arg e):
 (∃er:Int,(er !=0)=true∧e=.returned (.tuple #[(0:Int),(0:Int),er]))∨(∃lo hi:Int,0≤lo∧lo≤k∧k≤hi∧hi≤n∧e=.returned (.tuple #[lo,hi,(0:Int)])):=by
 rcases h with⟨er,h1,h2,_⟩|⟨cw,a,i,_,ha,hi,lo,hi',h1,h2,h3⟩
 ·exact .inl ⟨er,h1,h2⟩
 ·obtain⟨_,b1,b2,_⟩:=cw
  refine .inr ⟨lo,hi',by omega,by omega,?_,?_,h3⟩
  ·rw[h2];split<;>omega
  ·rw[h2]
   split
   ·have:=hi ‹_›;omega
   ·omega
def opF (key:Int):Int:=if Np key=true then D8 key else key
theorem rR {R:Int→Int→Int→Prop}(aw:n≤c)(aq:c≤maxLen)(hn:n≤4096)(hk:k=0∨k<n)(fg:(key=119∧big=false)∨(key=87∧big=true))
 (HB:Hid (Calls prog 117 #[.slice A n c,.int .i64 k,.bool ar,.bool big] (w.alloc (.cells #[(0:Int),(0:Int)] 196)) fun e w'=>(∃x y er,R x y er∧e=.returned (.tuple #[.agg #[.int .i64 x,.int .i64 y],.int .i64 er]))∧An (w.alloc (.cells #[(0:Int),(0:Int)] 196)) w')):
 Calls prog 75 #[.slice A n c,.int .i64 k,.bool ar,.int .i64 key] w fun e w'=>(∃x y er,R x y er∧e=.returned (.tuple #[.int .i64 x,.int .i64 y,.int .i64 er]))∧An w w':=by
 have N0:=trivial;exact K22
theorem J3z {R:Int→Int→Int→Prop}(aw:n≤c)(aq:c≤maxLen)(hn:n≤4096)(hk:k=0∨k<n)(fg:key=34∨key=39∨key=96)
 (HB:Hid (Calls prog 119 #[.slice A n c,.int .i64 k,.bool ar,.int .i64 key] (w.alloc (.cells #[(0:Int),(0:Int)] 196)) fun e w'=>(∃x y er,R x y er∧e=.returned (.tuple #[.agg #[.int .i64 x,.int .i64 y],.int .i64 er]))∧An (w.alloc (.cells #[(0:Int),(0:Int)] 196)) w')):
 Calls prog 75 #[.slice A n c,.int .i64 k,.bool ar,.int .i64 key] w fun e w'=>(∃x y er,R x y er∧e=.returned (.tuple #[.int .i64 x,.int .i64 y,.int .i64 er]))∧An w w':=by
 have N1:=trivial;exact K22
theorem J4b {R:Int→Int→Int→Prop}(aw:n≤c)(aq:c≤maxLen)(hn:n≤4096)(hk:k=0∨k<n)(fg:key=40∨key=41∨key=91∨key=93∨key=123∨key=125)
 (HB:Hid (Calls prog 118 #[.slice A n c,.int .i64 k,.bool ar,.int .i64 (opF key)] (w.alloc (.cells #[(0:Int),(0:Int)] 196)) fun e w'=>(∃x y er,R x y er∧e=.returned (.tuple #[.agg #[.int .i64 x,.int .i64 y],.int .i64 er]))∧An (w.alloc (.cells #[(0:Int),(0:Int)] 196)) w')):
 Calls prog 75 #[.slice A n c,.int .i64 k,.bool ar,.int .i64 key] w fun e w'=>(∃x y er,R x y er∧e=.returned (.tuple #[.int .i64 x,.int .i64 y,.int .i64 er]))∧An w w':=by
 have N2:=trivial;exact K22
def Vm (key:Int):Prop:=key≠119∧key≠87∧key≠34∧key≠39∧key≠96∧key≠40∧key≠41∧key≠91∧key≠93∧key≠123∧key≠125
theorem J4a (aw:n≤c)(aq:c≤maxLen)(hn:n≤4096)(hk:k=0∨k<n)(fg:Vm key):
 Calls prog 75 #[.slice A n c,.int .i64 k,.bool ar,.int .i64 key] w fun e w'=>e=.returned (.tuple #[(0:Int),(0:Int),(9:Int)])∧An w w':=by
 unfold maxLen at aq;have hm:(k:Int)≤max 0 ((n:Int)-1):=by omega
 obtain⟨h1,h2,h3,h4,h5,h6,h7,h8,h9,vz,Og⟩:=fg;have b1:(key==119)=false:=by simpa using h1
 have b2:(key==87)=false:=by simpa using h2
 have b3:(key==34)=false:=by simpa using h3
 have b4:(key==39)=false:=by simpa using h4
 have b5:(key==96)=false:=by simpa using h5
 have b6:(key==40)=false:=by simpa using h6
 have b7:(key==41)=false:=by simpa using h7
 have b8:(key==91)=false:=by simpa using h8
 have b9:(key==93)=false:=by simpa using h9
 have b10:(key==123)=false:=by simpa using vz
 have b11:(key==125)=false:=by simpa using Og
 have he:=An.alloc w (.cells #[(0:Int),(0:Int)] 196);have bi:=Aq.new w 196 #[.int .i64 0,.int .i64 0];have c6:=bi.cell 0;have c7:=bi.cell 1;simp only[List.getElem?_toArray,List.getElem?_cons_zero,List.getElem?_cons_succ]at c6 c7;clear h1 h2 h3 h4 h5 h6 h7 h8 h9 vz Og bi;go_enter func75,ntmps75
 go_wp2_with fail
 all_goals
  go_quiet (fail)
  go_wp2_with fail
  go_ret3
  exact⟨rfl,he.to_drewN _⟩
theorem bP (hl:Bj w A n c l)(wl:∀x∈l,(Lit.int .i64 x).wf=true)(hn:n≤4096)(hk:k=0∨k<n):
 Calls prog 118 #[.slice A n c,.int .i64 k,.bool true,.int .i64 o] w fun e w'=>((∃i b:Nat,Yp l k o i b∧e=.returned (.tuple #[.agg #[i,.int .i64 ((b:Int)+1)],(0:Int)]))∨
  (Vd l k o∧e=.returned (.tuple #[.agg #[(0:Int),(0:Int)],(6:Int)])))∧An w w':=by
 have N0:=trivial;exact K14
def qs (l:List Int)(k:Nat)(q:Int):Nat→Int
 |0=>-1
 |j+1=>if gI l j≠q then qs l k q j else if qs l k q j<0 then j else -1
theorem J1z (l:List Int)(k:Nat)(q:Int):∀j:Nat,-1≤qs l k q j∧qs l k q j<j
 |0=>by unfold qs;omega
 |j+1=>by
  have:=J1z l k q j;unfold qs
  (repeat' split)<;>omega
def aL (l:List Int)(k:Nat)(q:Int)(j:Nat):Prop:=gI l j=q∧0≤qs l k q j∧k≤j
def Tj (l:List Int)(k:Nat)(q:Int)(f t:Nat):Prop:=t<l.length∧aL l k q t∧(∀j,j<t→¬aL l k q j)∧qs l k q t=(f:Int)∧f<t
def xY (l:List Int)(k:Nat)(q:Int):Prop:=∀j,j<l.length→¬aL l k q j
theorem jE {f t f' t':Nat}(h:Tj l k q f t)(h':Tj l k q f' t'):f=f'∧t=t':=by
 have e:t=t':=by
  rcases Nat.lt_trichotomy t t' with h1|h1|h1
  ·exact absurd h.2.1 (h'.2.2.1 t h1)
  ·exact h1
  ·exact absurd h'.2.1 (h.2.2.1 t' h1)
 subst e;have h1:=h.2.2.2.1;have h2:=h'.2.2.2.1;exact⟨by omega,rfl⟩
theorem Zm {f t:Nat}(h:Tj l k q f t):¬xY l k q:=fun h'=>h' t h.1 h.2.1
theorem nP (hl:Bj w A n c l)(hn:n≤4096):
 Calls prog 119 #[.slice A n c,.int .i64 k,.bool ar,.int .i64 q] w fun e w'=>((∃f t:Nat,Tj l k q f t∧e=.returned (.tuple #[.agg #[.int .i64 (if ar=true then(f:Int)else(f:Int)+1),.int .i64 (if ar=true then(t:Int)+1 else(t:Int))],(0:Int)]))∨
  (xY l k q∧e=.returned (.tuple #[.agg #[(0:Int),(0:Int)],(6:Int)])))∧An w w':=by
 have aw:=hl.ncap;have aq:=hl.nmax;have ab:=A6 hl.len;unfold maxLen at aq;have he:=An.alloc w (.cells #[(0:Int),(0:Int)] 196);have a9:=Aq.new w 196 #[.int .i64 0,.int .i64 0];have gq:=hl.ext he;clear hl;go_enter func119,ntmps119
 go_wp2_with fail
 revert he a9 gq
 generalize w.alloc (.cells #[(0:Int),(0:Int)] 196)=w1;intro he a9 gq;have f0:=a9.frozen 0;have f1:=a9.frozen 1;have c4:=a9.cell 0;have c5:=a9.cell 1;simp only[Ah,Af,Ag]at c4 c5;have JG:Hid (∀x y:Int,Aq ((w1.setCell ⟨w,0,none⟩ x).setCell ⟨w,1,none⟩ y) w.heap.size 196 #[.int .i64 x,.int .i64 y]):=A6 (fun x y=>by
  simpa using(a9.set_ 0 (.int .i64 x)).set_ 1 (.int .i64 y))
 have LL:Hid (∀x y:Int,An w ((w1.setCell ⟨w,0,none⟩ x).setCell ⟨w,1,none⟩ y)):=A6 (fun x y=>(he.setCell (by simp) _).setCell (by simp) _)
 clear a9;go_loopw [10,15] (fun fr v wr=>∃j:Nat,j≤n∧v=.int .i64 j∧fr=.int .i64 (qs l k q j)∧Hid (∀x,x<j→¬aL l k q x)∧wr=w1) (fun _ v _=>n-(intOf v).toNat)
 case atStart=>exact⟨0,by omega,rfl,rfl,fun x h=>absurd h (by omega),rfl⟩
 case round=>
  obtain⟨j,hj,rfl,rfl,ax,rfl⟩:=hrel;obtain⟨q1,q2⟩:=J1z l k q j;have HS:Hid (qs l k q (j+1)=if gI l j≠q then qs l k q j else if qs l k q j<0 then j else -1):=A6 rfl;have HN:Hid (¬aL l k q j→∀x,x<j+1→¬aL l k q x):=A6 (fun h x hx=>by
   rcases Nat.lt_or_ge x j with h3|h3
   ·exact ax.out x h3
   ·obtain rfl:x=j:=by omega
    exact h)
  by_cases ae:j<n
  ·obtain⟨a1,rfl,hc⟩:=gq.at_ ae
   have d1:=hc j ae;clear hc;by_cases hq:gI l j=q
   ·have b1:(gI l j !=q)=false:=by simpa using hq
    have HQ:=A6 hq;clear hq;by_cases Ia:qs l k q j<0
    ·have hh:Hid (¬aL l k q j):=A6 (fun h=>by have:=h.2.1;omega)
     have HV:Hid (qs l k q (j+1)=j):=A6 (by rw[HS.out,if_neg (by simp[HQ.out]),if_pos Ia])
     exact I42
    ·by_cases hk:j<k
     ·have hh:Hid (¬aL l k q j):=A6 (fun h=>by have:=h.2.2;omega)
      have HV:Hid (qs l k q (j+1) = -1):=A6 (by rw[HS.out,if_neg (by simp[HQ.out]),if_neg Ia])
      exact I42
     ·obtain⟨f,hf⟩:=Int.eq_ofNat_of_zero_le (show 0≤qs l k q j by omega)
      have HF:Hid (Tj l k q f j):=A6 ⟨by rw[ab.out];exact ae,⟨HQ.out,by omega,by omega⟩,ax.out,hf,by omega⟩
      rw[hf]at q1 q2 Ia ⊢;clear hf HS;rcases ar with _|_
      ·go_wp2_with fail
       have bi:=JG.out ((f:Int)+1) j;exact I28
      ·go_wp2_with fail
       have bi:=JG.out (f:Int) ((j:Int)+1);exact I28
   ·have b1:(gI l j !=q)=true:=by simpa using hq
    have hh:Hid (¬aL l k q j):=A6 (fun h=>hq h.1)
    have HV:Hid (qs l k q (j+1)=qs l k q j):=A6 (by rw[HS.out,if_pos hq])
    clear hq;exact I42
  ·have HF:Hid (xY l k q):=A6 (fun x hx=>ax.out x (by rw[ab.out]at hx;omega))
   go_wp2_with fail
   all_goals
    have bi:=JG.out 0 0;have c6:=bi.cell 0;have c7:=bi.cell 1;simp only[Ah,Af,Ag]at c6 c7;clear c4 c5 f0 f1 bi;refine bodyPost_ret (by simp[results,results119,go_sem,c6,c7];try rfl) rfl ?_
    exact⟨.inr ⟨HF.out,rfl⟩,LL.out _ _⟩
theorem Aq.keepCell2 {g t:Nat}{cs:Array Value}(h:Aq w g t cs){p:Addr}(hp:p.block≠g)(u:Value):Aq (w.setCell p u) g t cs:=by
 exact I109
theorem Jf (c:Int)(big:Bool)(w:World):Calls prog 151 #[.int .i64 c,.bool big] w fun e w'=>e=.returned (.int .i64 (Bk c big))∧w=w':=
 (Vw c big w).mono fun _ _ ⟨h1,h2⟩=>⟨h1,h2.symm⟩
def bZ (w:World)(p:Addr):Nat:=match w.cell? p with|some v=>(intOf v).toNat|none=>0
theorem Q3 {p:Addr}{x:Nat}(h:w.cell? p=some (.int .i64 x)):bZ w p=x:=by unfold bZ;rw[h];simp[intOf]
theorem M5 (hl:Bj w A n c l)(hn:n≤4096)(hk:k<n):
 Calls prog 150 #[.slice A n c,.int .i64 k,.bool big] w fun e w'=>e=.returned (.agg #[.int .i64 (Hr l big (Bb l big k) k),.int .i64 (Fi l big (Bb l big k) k)])∧An w w':=by
 have aw:=hl.ncap;have aq:=hl.nmax;have ab:=A6 hl.len;unfold maxLen at aq;obtain⟨a1,rfl,hc⟩:=hl.at_ hk;have HC:=A6 hc;have am:An w ((w.alloc (.cells #[(0:Int),(0:Int)] 196)).alloc (.cells #[k,k] 196)):=(An.alloc _ _).to_alloc _;have d0:=am.cell (hc k hk);have al:=(Aq.new w 196 #[.int .i64 0,.int .i64 0]).ext (An.alloc _ (.cells #[k,k] 196));have ak:Aq ((w.alloc (.cells #[(0:Int),(0:Int)] 196)).alloc (.cells #[k,k] 196)) (w.heap.size+1) 196 #[.int .i64 k,.int .i64 k]:=by
  simpa using Aq.new (w.alloc (.cells #[(0:Int),(0:Int)] 196)) 196 #[.int .i64 k,.int .i64 k]
 have re:Hid (Bb l big k=Bk (gI l k) big):=Hd (by rw[ab.out];exact hk)
 have BD:Hid (∀j:Nat,j<n→Bb l big j=Bk (gI l j) big):=A6 (fun j hj=>Hd (by rw[ab.out];exact hj))
 clear hc;go_enter func150,ntmps150
 go_wp2_with fail
 refine(Jf _ _ _).mono ?_
 rintro e w1 ⟨rfl,rfl⟩;clear d0;go_wp2_with fail
 go_loopw [] (fun wr=>∃f:Nat,f≤k∧Hid (∀x:Nat,f≤x→x<k→Bb l big x=Bb l big k)∧Aq wr w.heap.size 196 #[.int .i64 0,.int .i64 0]∧Aq wr (w.heap.size+1) 196 #[.int .i64 f,.int .i64 k]∧An w wr) (fun wr=>bZ wr ⟨w.heap.size+1,0,none⟩)
 case atStart=>exact⟨k,Aj _,fun x h1 h2=>absurd h2 (by omega),al,ak,am⟩
 case round=>
  clear al ak am;obtain⟨f,hf,ax,al,ak,he⟩:=hrel;have c0:=ak.cell 0;have c1:=ak.cell 1;have f0:=ak.frozen 0;have f1:=ak.frozen 1;simp only[Ah,Af,Ag]at c0 c1;have HM:=A6 (Q3 c0);rcases Nat.eq_zero_or_pos f with h0|h0
  ·have HL:Hid (f=0∨Bb l big ((f:Int)-1)≠Bb l big k):=A6 (.inl h0)
   subst h0;have c0z:wr.cell? ⟨w.heap.size+1,0,none⟩=some (.int .i64 0):=c0;clear c0;have c0:=c0z;clear c0z;have VW:Hid (Hr l big (Bb l big k) k=0):=A6 (aT hf ax.out HL.out);go_wp2_with fail
   clear c0 c1 f0 f1;go_loopw [] (fun wr=>∃t:Nat,k≤t∧t≤n∧Hid (∀x:Nat,k≤x→x<t→Bb l big x=Bb l big k)∧Aq wr w.heap.size 196 #[.int .i64 0,.int .i64 0]∧Aq wr (w.heap.size+1) 196 #[.int .i64 ((0:Nat):Int),.int .i64 t]∧An w wr) (fun wr=>n-bZ wr ⟨w.heap.size+1,1,none⟩)
   case atStart=>exact⟨k,Aj _,by omega,fun x h1 h2=>absurd h2 (by omega),al,ak,he⟩
   case round=>
    clear al ak he;obtain⟨t,nh,ju,sx,al,ak,he⟩:=hrel;have c0:=ak.cell 0;have c1:=ak.cell 1;have f1:=ak.frozen 1;simp only[Ah,Af,Ag]at c0 c1;have HM:=A6 (Q3 c1);by_cases ae:t<n
    ·have N0:=trivial;exact K25
    ·have N0:=trivial;exact K35
  ·obtain⟨g,rfl⟩:∃g,f=g+1:=⟨f-1,by omega⟩
   have BE:g<n:=by omega
   have d1:=he.cell (HC.out g BE);by_cases heq:Bk (gI l g) big=Bk (gI l k) big
   ·have b1:(Bk (gI l g) big==Bk (gI l k) big)=true:=by simpa using heq
    have HQ:Hid (Bb l big g=Bb l big k):=A6 (by rw[BD.out g BE,re.out];exact heq)
    clear heq;go_wp2_with fail
    refine(Jf _ _ _).mono ?_
    rintro e w2 ⟨rfl,rfl⟩;go_wp2_with fail
    have ap:Aq (wr.setCell ⟨w.heap.size+1,0,none⟩ (.int .i64 (g:Int))) (w.heap.size+1) 196 #[.int .i64 g,.int .i64 k]:=by
     simpa using ak.set_ 0 (.int .i64 (g:Int))
    have c2:=ap.cell 0;simp only[Ah,Af,Ag]at c2;refine⟨⟨g,by omega,fun x h1 h2=>?_,al.keepCell2 (by simp) _,ap,he.setCell (by simp) _⟩,?_⟩
    ·rcases Nat.lt_or_ge g x with h3|h3
     ·exact ax.out x h3 h2
     ·obtain rfl:x=g:=by omega
      exact HQ.out
    ·rw[Q3 c2,HM.out];omega
   ·have b1:(Bk (gI l g) big==Bk (gI l k) big)=false:=by simpa using heq
    have HL:Hid (g+1=0∨Bb l big (((g+1:Nat):Int)-1)≠Bb l big k):=A6 (.inr (by rw[show(((g+1:Nat):Int)-1)=(g:Int)by omega,BD.out g BE,re.out];exact heq))
    clear heq;have VW:Hid (Hr l big (Bb l big k) k=g+1):=A6 (aT hf ax.out HL.out);go_wp2_with fail
    refine(Jf _ _ _).mono ?_
    rintro e w2 ⟨rfl,rfl⟩;go_wp2_with fail
    clear c0 c1 f0 f1;go_loopw [] (fun wr=>∃t:Nat,k≤t∧t≤n∧Hid (∀x:Nat,k≤x→x<t→Bb l big x=Bb l big k)∧Aq wr w.heap.size 196 #[.int .i64 0,.int .i64 0]∧Aq wr (w.heap.size+1) 196 #[.int .i64 ((g+1:Nat):Int),.int .i64 t]∧An w wr) (fun wr=>n-bZ wr ⟨w.heap.size+1,1,none⟩)
    case atStart=>exact⟨k,Aj _,by omega,fun x h1 h2=>absurd h2 (by omega),al,ak,he⟩
    case round=>
     clear al ak he;obtain⟨t,nh,ju,sx,al,ak,he⟩:=hrel;have c0:=ak.cell 0;have c1:=ak.cell 1;have f1:=ak.frozen 1;simp only[Ah,Af,Ag]at c0 c1;have HM:=A6 (Q3 c1);by_cases ae:t<n
     ·have N1:=trivial;exact K25
     ·have N1:=trivial;exact K35
def E8 (l:List Int)(k:Nat)(big:Bool):Nat:=Hr l big (Bb l big k) k
def Co (l:List Int)(k:Nat)(big:Bool):Nat:=Fi l big (Bb l big k) k
theorem Li (hk:k<l.length):E8 l k big≤k∧k<Co l k big∧Co l k big≤l.length∧∀x:Nat,E8 l k big≤x→x<Co l k big→Bb l big x=Bb l big k:=by
 unfold E8 Co;have h0:0≤Bb l big k:=by rw[Hd hk];exact(Nh _ _).1
 obtain⟨a1,a2,a3⟩:=Ki (l:=l) (big:=big) (kind:=Bb l big k) k;obtain⟨b1,b2,b3,b4⟩:=Ge (l:=l) (big:=big) (kind:=Bb l big k) h0 k;have ai:Fi l big (Bb l big k) k≠k:=fun e=>b3 (by rw[e])
 refine⟨a1,by omega,by omega,fun x h1 h2=>?_⟩
 rcases Ay x k with h|h
 ·exact a2 x h1 h
 ·exact b2 x h h2
theorem sL (hl:Bj w A n c l)(hn:n≤4096)(hk:k<n):
 Calls prog 117 #[.slice A n c,.int .i64 k,.bool false,.bool big] w fun e w'=>e=.returned (.tuple #[.agg #[.int .i64 (E8 l k big),.int .i64 (Co l k big)],(0:Int)])∧An w w':=by
 have aw:=hl.ncap;have aq:=hl.nmax;have z1:((n:Int)==0)=false:=by simp;omega
 unfold maxLen at aq;have hx:=An.alloc w (.cells #[(0:Int),(0:Int)] 196);have a9:=Aq.new w 196 #[.int .i64 0,.int .i64 0];have HR:=A6 (M5 (big:=big) (hl.ext hx) hn hk);clear hl;go_enter func117,ntmps117
 go_wp2_with fail
 refine HR.out.mono ?_
 rintro e w1 ⟨rfl,aj⟩;have hq:=(a9.ext aj).ext (An.alloc _ (.cells #[.int .i64 (E8 l k big),.int .i64 (Co l k big)] 196));have ix:=(hx.trans aj).to_alloc (.cells #[.int .i64 (E8 l k big),.int .i64 (Co l k big)] 196);have f0:=hq.frozen 0;have f1:=hq.frozen 1;have c4:=hq.cell 0;have c5:=hq.cell 1;simp only[Ah,Af,Ag]at c4 c5;clear HR a9 hx aj;rw[show Hr l big (Bb l big k) k=E8 l k big from rfl,show Fi l big (Bb l big k) k=Co l k big from rfl]
 go_wp2_with fail
 have bi:Aq (((w1.alloc (.cells #[.int .i64 (E8 l k big),.int .i64 (Co l k big)] 196)).setCell ⟨w,0,none⟩ (.int .i64 (E8 l k big))).setCell ⟨w,1,none⟩ (.int .i64 (Co l k big))) w.heap.size 196 #[.int .i64 (E8 l k big),.int .i64 (Co l k big)]:=by
  exact I119
 have c6:=bi.cell 0;have c7:=bi.cell 1;simp only[Ah,Af,Ag]at c6 c7;clear c4 c5 f0 f1 bi;refine bodyPost_ret (by simp[results,results117,go_sem,c6,c7];try rfl) rfl ?_
 exact⟨rfl,(ix.setCell (by simp) _).setCell (by simp) _⟩
def aG (l:List Int)(k:Nat)(big:Bool):Nat×Nat:=
 if Co l k big<l.length∧(Bb l big k=0∨Bb l big (Co l k big)=0)then(E8 l k big,Co l (Co l k big) big)
 else if Bb l big k≠0∧0<E8 l k big∧Bb l big (E8 l k big-1:Nat)=0 then(E8 l (E8 l k big-1) big,Co l k big)
 else(E8 l k big,Co l k big)
theorem Yw (hk:k<l.length):(aG l k big).1≤E8 l k big∧Co l k big≤(aG l k big).2∧(aG l k big).2≤l.length:=by
 obtain⟨a1,a2,a3,a4⟩:=Li (big:=big) hk;unfold aG;split
 ·rename_i h
  obtain⟨b1,b2,b3,b4⟩:=Li (big:=big) h.1;exact⟨Aj _,by show Co l k big≤Co l (Co l k big) big;omega,b3⟩
 ·split
  ·rename_i h
   obtain⟨b1,b2,b3,b4⟩:=Li (l:=l) (k:=E8 l k big-1) (big:=big) (by omega)
   exact⟨by show E8 l (E8 l k big-1) big≤E8 l k big;omega,Aj _,a3⟩
  ·exact⟨Aj _,Aj _,a3⟩
theorem eJ (a b:Value)(u:World):(Instr.field 196 (.agg #[a,b]) 0).run prog u=.ok a u:=by kernel_rfl
theorem Um (a b:Value)(u:World):(Instr.field 196 (.agg #[a,b]) 1).run prog u=.ok b u:=by kernel_rfl
theorem mH (hl:Bj w A n c l)(hn:n≤4096)(hk:k<n):
 Calls prog 117 #[.slice A n c,.int .i64 k,.bool true,.bool big] w fun e w'=>e=.returned (.tuple #[.agg #[.int .i64 (aG l k big).1,.int .i64 (aG l k big).2],(0:Int)])∧An w w':=by
 have aw:=hl.ncap;have aq:=hl.nmax;have ab:=A6 hl.len;have z1:((n:Int)==0)=false:=by simp;omega
 unfold maxLen at aq;have hx:=An.alloc w (.cells #[(0:Int),(0:Int)] 196);have a9:=Aq.new w 196 #[.int .i64 0,.int .i64 0];have HR:=A6 (M5 (big:=big) (hl.ext hx) hn hk);obtain⟨a1,a2,a3,-⟩:=Li (l:=l) (k:=k) (big:=big) (by rw[ab.out];exact hk)
 rw[ab.out]at a3;obtain⟨ad,rfl,hc⟩:=hl.at_ hk;have HC:=A6 hc;have re:Hid (Bb l big k=Bk (gI l k) big):=Hd (by rw[ab.out];exact hk)
 have BD:Hid (∀j:Nat,j<n→Bb l big j=Bk (gI l j) big):=A6 (fun j hj=>Hd (by rw[ab.out];exact hj))
 clear hc;go_enter func117,ntmps117
 go_wp2_with fail
 refine HR.out.mono ?_
 rintro e w1 ⟨rfl,aj⟩;have hT:=An.alloc w1 (.cells #[.int .i64 (E8 l k big),.int .i64 (Co l k big)] 196);have hq:=(a9.ext aj).ext hT;have hr:=Aq.new w1 196 #[.int .i64 (E8 l k big),.int .i64 (Co l k big)];have ix:=(hx.trans aj).trans hT;have MH:=hl.ext ix;have mg:w.heap.size<w1.heap.size:=(a9.ext aj).lt;have d1:=ix.cell (HC.out k hk);clear HR a9 hx aj hl;rw[show Hr l big (Bb l big k) k=E8 l k big from rfl,show Fi l big (Bb l big k) k=Co l k big from rfl]
 go_wp2_with fail
 revert hT hq hr ix MH d1
 generalize w1.alloc (.cells #[.int .i64 (E8 l k big),.int .i64 (Co l k big)] 196)=w2;intro hT hq hr ix MH d1;refine(Jf _ _ _).mono ?_
 rintro e w3 ⟨rfl,rfl⟩;clear d1;have c0:=hr.cell 0;have c1:=hr.cell 1;simp only[Ah,Af,Ag]at c0 c1;rcases Ay (Co l k big) n with ae|ku
 ·have dT:=ix.cell (HC.out _ ae)
  by_cases dk:Bk (gI l k) big=0
  ·have b1:(Bk (gI l k) big==0)=true:=by simpa using dk
   have HW:Hid (aG l k big=(E8 l k big,Co l (Co l k big) big)):=A6 (by unfold aG;rw[if_pos ⟨by rw[ab.out];exact ae,.inl (by rw[re.out];exact dk)⟩])
   clear dk;go_wp2_with fail
   refine(M5 (k:=(Co l k big)) (big:=big) MH hn ae).mono ?_
   rintro e w3 ⟨rfl,cu⟩;rw[show Hr l big (Bb l big ((Co l k big):Nat)) (Co l k big)=E8 l (Co l k big) big from rfl,show Fi l big (Bb l big ((Co l k big):Nat)) (Co l k big)=Co l (Co l k big) big from rfl]
   have jq:=hq.ext cu;have xj:=hr.ext cu;have xk:=ix.trans cu;have g0:=xj.frozen 1;have e0:=xj.cell 0;have e1:=xj.cell 1;have f0:=jq.frozen 0;have f1:=jq.frozen 1;have c4:=jq.cell 0;have c5:=jq.cell 1;simp only[Ah,Af,Ag]at c4 c5 e0 e1;clear c0 c1;have n1:¬w1.heap.size=w.heap.size:=by omega
   have n2:¬w.heap.size=w1.heap.size:=by omega
   have qu:=Um (.int .i64 (E8 l (Co l k big) big)) (.int .i64 (Co l (Co l k big) big)) w3;go_wp2_with fail
   have bi:Aq (((w3.setCell ⟨w1,1,none⟩ (.int .i64 (Co l (Co l k big) big))).setCell ⟨w,0,none⟩ (.int .i64 (E8 l k big))).setCell ⟨w,1,none⟩ (.int .i64 (Co l (Co l k big) big))) w.heap.size 196 #[.int .i64 (E8 l k big),.int .i64 (Co l (Co l k big) big)]:=by
    exact I51
   have c6:=bi.cell 0;have c7:=bi.cell 1;simp only[Ah,Af,Ag]at c6 c7;clear c4 c5 f0 f1 e0 e1 g0 qu bi;refine bodyPost_ret (by simp[results,results117,go_sem,c6,c7];try rfl) rfl ?_
   exact⟨by rw[HW.out]<;>rfl,((xk.setCell (p:=⟨w1,1,none⟩) (Nat.le_of_lt mg) _).setCell (by simp) _).setCell (by simp) _⟩
  ·have N0:=trivial;exact K11
 ·have N1:=trivial;exact K11
def ofW (l:List Int)(k:Nat)(ar big:Bool)(x y er:Int):Prop:=
 (k<l.length∧er=0∧x=(if ar=true then(aG l k big).1 else E8 l k big:Nat)∧y=(if ar=true then(aG l k big).2 else Co l k big:Nat))∨(l.length=0∧er=6∧x=0∧y=0)
def ofB (l:List Int)(k:Nat)(ar:Bool)(o:Int)(x y er:Int):Prop:=
 (∃i b:Nat,Yp l k o i b∧er=0∧x=(if ar=true then(i:Int)else(i:Int)+1)∧y=(if ar=true then(b:Int)+1 else b))∨(Vd l k o∧er=6∧x=0∧y=0)
def ofQ (l:List Int)(k:Nat)(ar:Bool)(q:Int)(x y er:Int):Prop:=
 (∃f t:Nat,Tj l k q f t∧er=0∧x=(if ar=true then(f:Int)else(f:Int)+1)∧y=(if ar=true then(t:Int)+1 else t))∨(xY l k q∧er=6∧x=0∧y=0)
theorem oX {i b i' b':Nat}(h:Yp l k o i b)(h':Yp l k o i' b'):i=i'∧b=b':=by
 obtain⟨h1,h2,h3,h4,h5,h6,h7⟩:=h;obtain⟨g1,g2,g3,g4,g5,g6,g7⟩:=h';have e:i=i':=by
  rcases Nat.lt_trichotomy i i' with h|h|h
  ·have:=h7 i' h g1 g2 g3;omega
  ·exact h
  ·have:=g7 i h h1 h2 h3;omega
 subst e;exact⟨rfl,by omega⟩
theorem Zl {i b:Nat}(h:Yp l k o i b):¬Vd l k o:=fun h'=>by
 obtain⟨h1,h2,h3,h4,h5,h6,h7⟩:=h;have:=h' i h1 h2 h3;omega
theorem gA {c:Nat}{ar big:Bool}:
 Calls prog 117 #[.slice A 0 c,.int .i64 k,.bool ar,.bool big] w fun e w'=>e=.returned (.tuple #[.agg #[(0:Int),(0:Int)],(6:Int)])∧An w w':=by
 have hx:=An.alloc w (.cells #[(0:Int),(0:Int)] 196);have hq:=Aq.new w 196 #[.int .i64 0,.int .i64 0];have bi:Aq (((w.alloc (.cells #[(0:Int),(0:Int)] 196)).setCell ⟨w,0,none⟩ (0:Int)).setCell ⟨w,1,none⟩ (0:Int)) w.heap.size 196 #[.int .i64 0,.int .i64 0]:=by
  simpa using(hq.set_ 0 (.int .i64 0)).set_ 1 (.int .i64 0)
 have c6:=bi.cell 0;have c7:=bi.cell 1;simp only[List.getElem?_toArray,List.getElem?_cons_zero,List.getElem?_cons_succ]at c6 c7;clear bi hq;go_enter func117,ntmps117
 go_wp2_with fail
 refine bodyPost_ret (by simp[results,results117,go_sem,c6,c7];try rfl) rfl ?_
 first
  |exact⟨rfl,hx⟩
  |exact⟨rfl,(hx.setCell (by simp) _).setCell (by simp) _⟩
def qT (l:List Int)(k:Nat)(ar:Bool)(key:Int)(x y er:Int):Prop:=
 (key=119∧ofW l k ar false x y er)∨(key=87∧ofW l k ar true x y er)∨((key=34∨key=39∨key=96)∧ofQ l k ar key x y er)∨
  ((key=40∨key=41∨key=91∨key=93∨key=123∨key=125)∧ofB l k ar (opF key) x y er)∨(Vm key∧x=0∧y=0∧er=9)
theorem Yv {ar big:Bool}(hl:Bj w A n c l)(hn:n≤4096)(hk:k=0∨k<n):
 Calls prog 117 #[.slice A n c,.int .i64 k,.bool ar,.bool big] w fun e w'=>(∃x y er,ofW l k ar big x y er∧e=.returned (.tuple #[.agg #[.int .i64 x,.int .i64 y],.int .i64 er]))∧An w w':=by
 have ab:=hl.len;rcases Nat.eq_zero_or_pos n with h0|h0
 ·subst h0
  exact gA.mono fun e w' ⟨h1,h2⟩=>⟨⟨0,0,6,.inr ⟨ab,rfl,rfl,rfl⟩,h1⟩,h2⟩
 ·cases ar with
  |false=>exact(sL hl hn (by omega)).mono fun e w' ⟨h1,h2⟩=>⟨⟨_,_,0,.inl ⟨by omega,rfl,by simp,by simp⟩,h1⟩,h2⟩
  |true=>exact(mH hl hn (by omega)).mono fun e w' ⟨h1,h2⟩=>⟨⟨_,_,0,.inl ⟨by omega,rfl,by simp,by simp⟩,h1⟩,h2⟩
theorem bO (hl:Bj w A n c l)(wl:∀x∈l,(Lit.int .i64 x).wf=true)(hn:n≤4096)(hk:k=0∨k<n):
 Calls prog 118 #[.slice A n c,.int .i64 k,.bool ar,.int .i64 o] w fun e w'=>(∃x y er,ofB l k ar o x y er∧e=.returned (.tuple #[.agg #[.int .i64 x,.int .i64 y],.int .i64 er]))∧An w w':=by
 cases ar with
 |false=>exact(fA hl wl hn hk).mono fun e w' ⟨h1,h2⟩=>⟨by
  rcases h1 with⟨i,b,h,e⟩|⟨h,e⟩
  ·exact I133
  ·exact⟨0,0,6,.inr ⟨h,rfl,rfl,rfl⟩,e⟩,h2⟩
 |true=>exact(bP hl wl hn hk).mono fun e w' ⟨h1,h2⟩=>⟨by
  rcases h1 with⟨i,b,h,e⟩|⟨h,e⟩
  ·exact I133
  ·exact⟨0,0,6,.inr ⟨h,rfl,rfl,rfl⟩,e⟩,h2⟩
theorem iC (hl:Bj w A n c l)(hn:n≤4096):
 Calls prog 119 #[.slice A n c,.int .i64 k,.bool ar,.int .i64 q] w fun e w'=>(∃x y er,ofQ l k ar q x y er∧e=.returned (.tuple #[.agg #[.int .i64 x,.int .i64 y],.int .i64 er]))∧An w w':=
 (nP hl hn).mono fun e w' ⟨h1,h2⟩=>⟨by
  rcases h1 with⟨f,t,h,e⟩|⟨h,e⟩
  ·exact⟨_,_,0,.inl ⟨f,t,h,rfl,rfl,rfl⟩,e⟩
  ·exact⟨0,0,6,.inr ⟨h,rfl,rfl,rfl⟩,e⟩,h2⟩
theorem Zf (hl:Bj w A n c l)(wl:∀x∈l,(Lit.int .i64 x).wf=true)(hn:n≤4096)(hk:k=0∨k<n):
 Calls prog 75 #[.slice A n c,.int .i64 k,.bool ar,.int .i64 key] w fun e w'=>(∃x y er,qT l k ar key x y er∧e=.returned (.tuple #[.int .i64 x,.int .i64 y,.int .i64 er]))∧An w w':=by
 have hx:=An.alloc w (.cells #[(0:Int),(0:Int)] 196);by_cases h1:key=119
 ·exact(rR (big:=false) hl.ncap hl.nmax hn hk (.inl ⟨h1,rfl⟩) (A6 (Yv (hl.ext hx) hn hk))).mono fun e w' ⟨⟨x,y,er,h2,h3⟩,h4⟩=>⟨⟨x,y,er,.inl ⟨h1,h2⟩,h3⟩,h4⟩
 by_cases h2:key=87
 ·exact(rR (big:=true) hl.ncap hl.nmax hn hk (.inr ⟨h2,rfl⟩) (A6 (Yv (hl.ext hx) hn hk))).mono fun e w' ⟨⟨x,y,er,h3,h4⟩,h5⟩=>⟨⟨x,y,er,.inr (.inl ⟨h2,h3⟩),h4⟩,h5⟩
 by_cases h3:key=34∨key=39∨key=96
 ·exact(J3z hl.ncap hl.nmax hn hk h3 (A6 (iC (hl.ext hx) hn))).mono fun e w' ⟨⟨x,y,er,h4,h5⟩,h6⟩=>⟨⟨x,y,er,.inr (.inr (.inl ⟨h3,h4⟩)),h5⟩,h6⟩
 by_cases h4:key=40∨key=41∨key=91∨key=93∨key=123∨key=125
 ·exact(J4b hl.ncap hl.nmax hn hk h4 (A6 (bO (hl.ext hx) wl hn hk))).mono fun e w' ⟨⟨x,y,er,h5,h6⟩,h7⟩=>⟨⟨x,y,er,.inr (.inr (.inr (.inl ⟨h4,h5⟩))),h6⟩,h7⟩
 have du:Vm key:=by unfold Vm;omega
 exact(J4a hl.ncap hl.nmax hn hk du).mono fun e w' ⟨h5,h6⟩=>⟨⟨0,0,9,.inr (.inr (.inr (.inr ⟨du,rfl,rfl,rfl⟩))),h5⟩,h6⟩
end
