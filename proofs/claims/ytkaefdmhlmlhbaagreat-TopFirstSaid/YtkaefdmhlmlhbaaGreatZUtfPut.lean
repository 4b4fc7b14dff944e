/-
  Part ZUtfPut.
-/
import Derived.Test.YtkaefdmhlmlhbaaGreatZBase
import Derived.Lib.Strings
import Derived.Laws.BitsAllLaws
import Derived.Laws.Shifts
set_option maxRecDepth 100000
set_option maxHeartbeats 16000000
set_option linter.unusedVariables false
set_option linter.unusedSimpArgs false
namespace Go.Proofs.YtkaefdmhlmlhbaaGreat
open Go.RowKit
open _root_.Go.Proofs.Tryz
open _root_.List renaming length_map→Cx
section
variable {l:List Nat}
theorem Xg {c:Int}(h:Df c)(w:World):Calls prog 37 #[.int .i64 c] w fun e w'=>e=.returned (.bool true)∧w=w':=by
 obtain⟨h0,h1,h2⟩:=h;by_cases h3:c<55296
 ·clear h2
  exact I18
 ·have h4:57343<c:=by omega
  clear h2;exact I18
theorem Z7 {c:Int}(h:¬Df c)(w:World):Calls prog 37 #[.int .i64 c] w fun e w'=>e=.returned (.bool false)∧w=w':=by
 unfold Df at h;by_cases h0:0≤c
 ·by_cases h1:c≤1114111
  ·have h3:¬c<55296:=by omega
   have h4:¬57343<c:=by omega
   clear h;exact I18
  ·clear h
   exact I18
 ·clear h
  exact I18
theorem yQ {u u' v v':Value}(h1:u=u')(h2:v=v'):Ending.returned (.tuple #[u,v])=.returned (.tuple #[u',v']):=by rw[h1,h2]
theorem J4o {a b:Int}(h:a=b):Value.int .i64 a=.int .i64 b:=by rw[h]
theorem lC {b:Nat}(hb:b<256)(w:World):Calls prog 54 #[.int .u8 b] w fun e w'=>e=.returned (.tuple #[.int .i64 (Er b),.int .i64 (Kd b)])∧w=w':=by
 by_cases c1:b<128
 ·obtain⟨e1,e2⟩:=rK c1
  exact I37
 by_cases c2:b<192
 ·have e1:=J6g (by omega) c2
  have e2:Kd b=0:=by unfold Kd;rw[if_neg c1,if_pos c2]
  exact I37
 by_cases c3:b<224
 ·obtain⟨e1,e2⟩:=rJ (by omega) c3
  exact I27
 by_cases c4:b<240
 ·obtain⟨e1,e2⟩:=rI (by omega) c4
  exact I27
 by_cases c5:b<248
 ·obtain⟨e1,e2⟩:=rH (by omega) c5
  exact I27
 ·have e1:=J6f (b:=b) (by omega)
  have e2:Kd b=0:=by unfold Kd;rw[if_neg c1,if_neg c2,if_neg c3,if_neg c4,if_neg c5]
  exact I37
theorem uU (n:Nat)(w:World):Calls prog 55 #[.int .i64 n] w fun e w'=>e=.returned (.int .i64 (Mq n))∧w=w':=by
 by_cases c1:n=2
 ·subst c1
  exact I26
 by_cases c2:n=3
 ·subst c2
  exact I26
 by_cases c3:n=4
 ·subst c3
  exact I26
 have e:Mq n=0:=by unfold Mq;rw[if_neg c1,if_neg c2,if_neg c3]
 rw[e];have k1:((n:Int)==2)=false:=by simp;omega
 have k2:((n:Int)==3)=false:=by simp;omega
 have k3:((n:Int)==4)=false:=by simp;omega
 clear c1 c2 c3 e;exact I26
theorem Z6 (c:Int)(w:World):Calls prog 37 #[.int .i64 c] w fun e w'=>e=.returned (.bool (decide (Df c)))∧w=w':=by
 by_cases h:Df c
 ·rw[decide_eq_true h];exact Xg h w
 ·rw[decide_eq_false h];exact Z7 h w
theorem J0f (w:World)(s:ByteArray)(h:(Ap s).length=0):Calls prog 38 #[.string s] w fun e w'=>e=.returned (.tuple #[.int .i64 (J9 (Ap s)),.int .i64 (Lc (Ap s)),.int .i64 (J8 (Ap s))])∧w=w':=by
 have e0:J8 (Ap s)=3:=by unfold J8;rw[if_pos h]
 have e1:J9 (Ap s)=0:=by unfold J9;rw[if_neg (by rw[e0];decide)]
 have e2:Lc (Ap s)=0:=by unfold Lc;rw[if_neg (by rw[e0];decide)]
 rw[e0,e1,e2];have k:s.toList=[]:=by
  rw[Lib.toList_data];have:(Ap s).length=s.data.toList.length:=by unfold Ap;rw[Cx]
  rw[this]at h;exact List.length_eq_zero_iff.1 h
 clear h e0 e1 e2;go_enter func38,ntmps38
 go_wp2_with fail
 go_ret3
 exact⟨rfl,rfl⟩
theorem eD (s:ByteArray):(Ap s).length=s.toList.length:=by
 rw[Lib.toList_data];unfold Ap;rw[Cx]
theorem Xt {s:ByteArray}(h:(Ap s).length≠0):s.toList.isEmpty=false:=by
 rw[eD]at h;cases hs:s.toList with
 |nil=>rw[hs]at h;exact absurd rfl h
 |cons a b=>rfl
theorem vP (w:World)(s:ByteArray)(h:(Ap s).length≠0)(h1:Er (gN (Ap s) 0)=0):Calls prog 38 #[.string s] w fun e w'=>e=.returned (.tuple #[.int .i64 (J9 (Ap s)),.int .i64 (Lc (Ap s)),.int .i64 (J8 (Ap s))])∧w=w':=by
 have e0:J8 (Ap s)=4:=by unfold J8;rw[if_neg h,if_pos h1]
 have e1:J9 (Ap s)=0:=by unfold J9;rw[if_neg (by rw[e0];decide)]
 have e2:Lc (Ap s)=0:=by unfold Lc;rw[if_neg (by rw[e0];decide)]
 rw[e0,e1,e2];have XT:=Xt h;have dl:0<s.size:=by rw[←F5];omega
 have HL:=A6 (lC (kE (Vb s) 0));rw[h1]at HL;have hi:∀h,(s[0]'h).toNat=gN (Ap s) 0:=fun h=>Vc s 0 h
 clear h e0 e1 e2 h1;go_enter func38,ntmps38
 go_wp2_with fail
 refine(HL.out _).mono ?_
 rintro e w' ⟨rfl,rfl⟩;go_wp2_with fail
 go_ret3
 exact⟨rfl,rfl⟩
theorem mW {f c k:Nat}(h:k=l.length):Kq l (f+1) k c=(3,c):=by unfold Kq;rw[if_pos h]
theorem mX {f c k:Nat}(h:k≠l.length)(h2:gN l k/64≠2):Kq l (f+1) k c=(4,c):=by unfold Kq;rw[if_neg h,if_pos h2]
theorem oW {e c:Nat}(h0:l.length≠0)(h1:Er (gN l 0)≠0)(he:e≠0)(h:Qr l=(e,c)):J8 l=e∧J9 l=0∧Lc l=0:=by
 have e0:J8 l=e:=by unfold J8;rw[if_neg h0,if_neg h1,h,if_pos he]
 exact⟨e0,by unfold J9;rw[if_neg (by rw[e0];exact he)],by unfold Lc;rw[if_neg (by rw[e0];exact he)]⟩
theorem J0g {c:Nat}(h0:l.length≠0)(h1:Er (gN l 0)≠0)(h:Qr l=(0,c))(hk:c<Mq (Er (gN l 0))∨¬Df c):J8 l=4∧J9 l=0∧Lc l=0:=by
 have e0:J8 l=4:=by
  unfold J8;rw[if_neg h0,if_neg h1,if_neg (by rw[h];simp),if_neg]
  unfold Yo;rw[h];exact fun hh=>hh hk
 exact⟨e0,by unfold J9;rw[if_neg (by rw[e0];decide)],by unfold Lc;rw[if_neg (by rw[e0];decide)]⟩
theorem vQ {c:Nat}(h0:l.length≠0)(h1:Er (gN l 0)≠0)(h:Qr l=(0,c))(hk:¬(c<Mq (Er (gN l 0))∨¬Df c)):J8 l=0∧J9 l=c∧Lc l=Er (gN l 0):=by
 have e0:J8 l=0:=by
  unfold J8;rw[if_neg h0,if_neg h1,if_neg (by rw[h];simp),if_pos]
  unfold Yo;rw[h];exact hk
 exact⟨e0,by unfold J9;rw[if_pos e0,h],by unfold Lc;rw[if_pos e0]⟩
theorem uV (b:Nat):Er b≤4:=by unfold Er;split<;>(try split)<;>(try split)<;>(try split)<;>(try split)<;>omega
theorem uW (b:Nat):Kd b<128:=by unfold Kd;split<;>(try split)<;>(try split)<;>(try split)<;>(try split)<;>omega
theorem J3m {cc k:Nat}(h1:1≤k)(h4:k<4)(h:cc<128*64^(k-1)):cc<1000000:=by
 have:k=1∨k=2∨k=3:=by omega
 rcases this with rfl|rfl|rfl<;>simp at h<;>omega
theorem J3l {cc k x:Nat}(h1:1≤k)(h:cc<128*64^(k-1)):cc*64+x%64<128*64^(k+1-1):=by
 have e:64^(k+1-1)=64^(k-1)*64:=by rw[←Nat.pow_succ];congr 1;omega
 rw[e,←Nat.mul_assoc];omega
theorem or6 {c g:Nat}(hc:c<1000000):bits .or .i64 ((c:Int)*64) ((g:Int)%64)=((c*64+g%64:Nat):Int):=by
 rw[bits_join .i64 32 (by decide) (fun n h0 h1=>by rw[IntKind.wrap_i64];omega) 6 _ _ (by omega) (by omega) (by omega) (by omega) (by omega) (by omega)]
 omega
theorem vO (w:World)(s:ByteArray)(h0:(Ap s).length≠0)(h1:Er (gN (Ap s) 0)≠0):Calls prog 38 #[.string s] w fun e w'=>e=.returned (.tuple #[.int .i64 (J9 (Ap s)),.int .i64 (Lc (Ap s)),.int .i64 (J8 (Ap s))])∧w=w':=by
 have XT:=Xt h0;have dl:0<s.size:=by rw[←F5];omega
 have HN:=A6 (F5 s);have HB:=A6 (Vb s);have HL:=A6 (lC (kE (Vb s) 0));have HI:Hid (∀(k:Nat) (h:k<s.size),(s[k]'h).toNat=gN (Ap s) k):=A6 fun k h=>Vc s k h
 have bT:∀h,(s[0]'h).toNat=gN (Ap s) 0:=fun h=>Vc s 0 h
 have HR:Hid (Qr (Ap s)=Kq (Ap s) (Er (gN (Ap s) 0)-1) 1 (Kd (gN (Ap s) 0))):=A6 rfl;have HF:Hid (∀(e c:Nat),e≠0→Qr (Ap s)=(e,c)→J8 (Ap s)=e∧J9 (Ap s)=0∧Lc (Ap s)=0):=A6 fun e c he h=>oW h0 h1 he h
 have HX:Hid (∀(c:Nat),Qr (Ap s)=(0,c)→(c<Mq (Er (gN (Ap s) 0))∨¬Df c)→J8 (Ap s)=4∧J9 (Ap s)=0∧Lc (Ap s)=0):=A6 fun c h hk=>J0g h0 h1 h hk
 have HG:Hid (∀(c:Nat),Qr (Ap s)=(0,c)→¬(c<Mq (Er (gN (Ap s) 0))∨¬Df c)→J8 (Ap s)=0∧J9 (Ap s)=c∧Lc (Ap s)=Er (gN (Ap s) 0)):=A6 fun c h hk=>vQ h0 h1 h hk
 have hn4:=uV (gN (Ap s) 0);have bh:=uW (gN (Ap s) 0);clear h0;generalize hb:gN (Ap s) 0=b at*;generalize hn:Er b=n at*;generalize sw:Kd b=c0 at*;generalize hE:J8 (Ap s)=ee at*;generalize hC:J9 (Ap s)=ec at*;generalize hW:Lc (Ap s)=ew at*;clear hb hn sw hE hC hW;have hz:((n:Int)==0)=false:=by simp;omega
 go_enter func38,ntmps38
 go_wp2_with fail
 refine(HL.out _).mono ?_
 rintro e w' ⟨rfl,rfl⟩;clear HL bT;go_wp2_with fail
 go_loopw [6,7] (fun c i wr=>∃(k cc:Nat),c=.int .i64 cc∧i=.int .i64 k∧1≤k∧k≤n∧Hid (Qr (Ap s)=Kq (Ap s) (n-k) k cc)∧Hid (cc<128*64^(k-1))∧k≤s.size∧wr=w) (fun _ i _=>n-(intOf i).toNat)
 case atStart=>exact⟨1,c0,rfl,rfl,by omega,by omega,HR,A6 (by simpa using bh),by omega,rfl⟩
 case round=>
  obtain⟨k,cc,rfl,rfl,fv,fx,hr,sw,xl,rfl⟩:=hrel;by_cases jc:k<n
  ·have l9:cc<1000000:=J3m fv (by omega) sw.out
   by_cases zm:k=s.size
   ·have HA:=A6 (HF.out 3 cc (by decide) (by rw[hr.out,show n-k=(n-k-1)+1 by omega];exact mW (by rw[HN.out];exact zm)))
    exact I29
   ·have XU:k<s.size:=by omega
    have zw:=HI.out k XU;have hg:=kE HB.out k;by_cases h2:gN (Ap s) k/64=2
    ·go_wp2_with fail
     rw[or6 l9];refine⟨⟨k+1,cc*64+gN (Ap s) k%64,rfl,by go_num,by omega,by omega,A6 ?_,A6 (J3l fv sw.out),by omega,trivial⟩,by simp[intOf];omega⟩
     rw[hr.out,show n-k=(n-(k+1))+1 by omega]
     exact Jc (by rw[HN.out];exact zm) h2
    ·have HA:=A6 (HF.out 4 cc (by decide) (by rw[hr.out,show n-k=(n-k-1)+1 by omega];exact mX (by rw[HN.out];exact zm) h2))
     exact I29
  ·obtain rfl:k=n:=by omega
   have mm:Hid (Qr (Ap s)=(0,cc)):=A6 (by rw[hr.out,Nat.sub_self];rfl)
   have l9:cc<100000000000:=by
    have h1:=sw.out;have:k=1∨k=2∨k=3∨k=4:=by omega
    rcases this with rfl|rfl|rfl|rfl<;>simp at h1<;>omega
   clear HF HR HB HN HI hr;have UH:=A6 (uU k);generalize Mq k=m at*;go_wp2_with fail
   refine(UH.out _).mono ?_
   rintro e w' ⟨rfl,rfl⟩;by_cases ae:cc<m
   ·have HA:=A6 (HX.out cc mm.out (.inl ae))
    clear HX HG mm;exact I29
   ·by_cases gj:Df cc
    ·have HA:=A6 (HG.out cc mm.out (fun hh=>hh.elim ae (fun h=>h gj)))
     have HS:=A6 (Z6 cc);rw[decide_eq_true gj]at HS;exact I151
    ·have HA:=A6 (HX.out cc mm.out (.inr gj))
     have HS:=A6 (Z6 cc);rw[decide_eq_false gj]at HS;exact I151
theorem jC (s:ByteArray)(w:World):Calls prog 38 #[.string s] w fun e w'=>e=.returned (.tuple #[.int .i64 (J9 (Ap s)),.int .i64 (Lc (Ap s)),.int .i64 (J8 (Ap s))])∧w=w':=by
 by_cases h0:(Ap s).length=0
 ·exact J0f w s h0
 by_cases h1:Er (gN (Ap s) 0)=0
 ·exact vP w s h0 h1
 ·exact vO w s h0 h1
end
