/-
  Part of the proof: ZUtfPut.
-/
import Derived.Test.YtkaefdmhlmlhbaaGreatZRopeM
import Derived.Lib.Strings
import Derived.Laws.BitsAllLaws
import Derived.Laws.Shifts
set_option maxRecDepth 100000
set_option maxHeartbeats 16000000
set_option linter.unusedVariables false
set_option linter.unusedSimpArgs false
namespace Go.Proofs.YtkaefdmhlmlhbaaGreat
open Go.RowKit
open _root_.List renaming length_map→Cs
theorem J2o {c:Int}(h:Jm c)(w:World):Calls Tryz.prog 37 #[.int .i64 c] w fun e w'=>e=.returned (.bool true)∧w=w':=by
 obtain⟨h0,h1,h2⟩:=h;by_cases h3:c<55296
 ·clear h2
  exact I17
 ·have h4:57343<c:=by omega
  clear h2;exact I17
theorem J7d {c:Int}(h:¬Jm c)(w:World):Calls Tryz.prog 37 #[.int .i64 c] w fun e w'=>e=.returned (.bool false)∧w=w':=by
 unfold Jm at h;by_cases h0:0≤c
 ·by_cases h1:c≤1114111
  ·have h3:¬c<55296:=by omega
   have h4:¬57343<c:=by omega
   clear h;exact I17
  ·clear h
   exact I17
 ·clear h
  exact I17
theorem Z6b {c:Nat}(h:Jm c)(w:World):Calls Tryz.prog 16 #[.int .i64 c] w fun e w'=>e=.returned (.tuple #[.string (Fx (Mu c)),.int .i64 0])∧w=w':=by
 have H:=A6 h;have h1:c≤1114111:=by have:=h.2.1;omega
 clear h;go_enter Tryz.func16,Tryz.ntmps16
 go_wp2_with fail
 refine(J2o H.out _).mono ?_
 rintro e w' ⟨rfl,rfl⟩;go_wp2_with fail
 go_ret2
 exact⟨by rw[Z5k H.out];rfl,rfl⟩
theorem Z6l {c:Int}(h:¬Jm c)(w:World):Calls Tryz.prog 16 #[.int .i64 c] w fun e w'=>e=.returned (.tuple #[.string ⟨#[]⟩,.int .i64 1])∧w=w':=by
 have H:=A6 h;clear h;go_enter Tryz.func16,Tryz.ntmps16
 go_wp2_with fail
 refine(J7d H.out _).mono ?_
 rintro e w' ⟨rfl,rfl⟩;go_wp2_with fail
 go_ret2
 exact⟨rfl,rfl⟩
theorem Q5t {u u' v v':Value}(h1:u=u')(h2:v=v'):Ending.returned (.tuple #[u,v])=.returned (.tuple #[u',v']):=by rw[h1,h2]
theorem Z1g {a b:Int}(h:a=b):Value.int .i64 a=.int .i64 b:=by rw[h]
theorem J5k {b:Nat}(hb:b<256)(w:World):Calls Tryz.prog 54 #[.int .u8 b] w fun e w'=>e=.returned (.tuple #[.int .i64 (Dy b),.int .i64 (Ja b)])∧w=w':=by
 by_cases c1:b<128
 ·obtain⟨e1,e2⟩:=Q0i c1
  exact I34
 by_cases c2:b<192
 ·have e1:=Z2v (by omega) c2
  have e2:Ja b=0:=by unfold Ja;rw[if_neg c1,if_pos c2]
  exact I34
 by_cases c3:b<224
 ·obtain⟨e1,e2⟩:=Q0h (by omega) c3
  exact I25
 by_cases c4:b<240
 ·obtain⟨e1,e2⟩:=Q0g (by omega) c4
  exact I25
 by_cases c5:b<248
 ·obtain⟨e1,e2⟩:=Q0f (by omega) c5
  exact I25
 ·have e1:=Z2u (b:=b) (by omega)
  have e2:Ja b=0:=by unfold Ja;rw[if_neg c1,if_neg c2,if_neg c3,if_neg c4,if_neg c5]
  exact I34
theorem Q3b (n:Nat)(w:World):Calls Tryz.prog 55 #[.int .i64 n] w fun e w'=>e=.returned (.int .i64 (Ld n))∧w=w':=by
 by_cases c1:n=2
 ·subst c1
  exact I24
 by_cases c2:n=3
 ·subst c2
  exact I24
 by_cases c3:n=4
 ·subst c3
  exact I24
 have e:Ld n=0:=by unfold Ld;rw[if_neg c1,if_neg c2,if_neg c3]
 rw[e];have k1:((n:Int)==2)=false:=by simp;omega
 have k2:((n:Int)==3)=false:=by simp;omega
 have k3:((n:Int)==4)=false:=by simp;omega
 clear c1 c2 c3 e;exact I24
theorem Wh (c:Int)(w:World):Calls Tryz.prog 37 #[.int .i64 c] w fun e w'=>e=.returned (.bool (decide (Jm c)))∧w=w':=by
 by_cases h:Jm c
 ·rw[decide_eq_true h];exact J2o h w
 ·rw[decide_eq_false h];exact J7d h w
theorem Q7h (w:World)(s:ByteArray)(h:(Ao s).length=0):Calls Tryz.prog 38 #[.string s] w fun e w'=>e=.returned (.tuple #[.int .i64 (Hb (Ao s)),.int .i64 (Ka (Ao s)),.int .i64 (H8 (Ao s))])∧w=w':=by
 have e0:H8 (Ao s)=3:=by unfold H8;rw[if_pos h]
 have e1:Hb (Ao s)=0:=by unfold Hb;rw[if_neg (by rw[e0];decide)]
 have e2:Ka (Ao s)=0:=by unfold Ka;rw[if_neg (by rw[e0];decide)]
 rw[e0,e1,e2];have k:s.toList=[]:=by
  rw[Lib.toList_data];have:(Ao s).length=s.data.toList.length:=by unfold Ao;rw[Cs]
  rw[this]at h;exact List.length_eq_zero_iff.1 h
 clear h e0 e1 e2;go_enter Tryz.func38,Tryz.ntmps38
 go_wp2_with fail
 go_ret3
 exact⟨rfl,rfl⟩
theorem J0m (s:ByteArray):(Ao s).length=s.toList.length:=by
 rw[Lib.toList_data];unfold Ao;rw[Cs]
theorem V1 {s:ByteArray}(h:(Ao s).length≠0):s.toList.isEmpty=false:=by
 rw[J0m]at h;cases hs:s.toList with
 |nil=>rw[hs]at h;exact absurd rfl h
 |cons a b=>rfl
theorem Q3s (w:World)(s:ByteArray)(h:(Ao s).length≠0)(h1:Dy (gN (Ao s) 0)=0):Calls Tryz.prog 38 #[.string s] w fun e w'=>e=.returned (.tuple #[.int .i64 (Hb (Ao s)),.int .i64 (Ka (Ao s)),.int .i64 (H8 (Ao s))])∧w=w':=by
 have e0:H8 (Ao s)=4:=by unfold H8;rw[if_neg h,if_pos h1]
 have e1:Hb (Ao s)=0:=by unfold Hb;rw[if_neg (by rw[e0];decide)]
 have e2:Ka (Ao s)=0:=by unfold Ka;rw[if_neg (by rw[e0];decide)]
 rw[e0,e1,e2];have hemp:=V1 h;have hsz:0<s.size:=by rw[←Fi];omega
 have HL:=A6 (J5k (J4q (Te s) 0));rw[h1]at HL;have hi:∀h,(s[0]'h).toNat=gN (Ao s) 0:=fun h=>Tf s 0 h
 clear h e0 e1 e2 h1;go_enter Tryz.func38,Tryz.ntmps38
 go_wp2_with fail
 refine(HL.out _).mono ?_
 rintro e w' ⟨rfl,rfl⟩;go_wp2_with fail
 go_ret3
 exact⟨rfl,rfl⟩
theorem J6u {l:List Nat}{f c k:Nat}(h:k=l.length):Jn l (f+1) k c=(3,c):=by unfold Jn;rw[if_pos h]
theorem J6v {l:List Nat}{f c k:Nat}(h:k≠l.length)(h2:gN l k/64≠2):Jn l (f+1) k c=(4,c):=by unfold Jn;rw[if_neg h,if_pos h2]
theorem J8l {l:List Nat}{e c:Nat}(h0:l.length≠0)(h1:Dy (gN l 0)≠0)(he:e≠0)(h:Pa l=(e,c)):H8 l=e∧Hb l=0∧Ka l=0:=by
 have e0:H8 l=e:=by unfold H8;rw[if_neg h0,if_neg h1,h,if_pos he]
 exact⟨e0,by unfold Hb;rw[if_neg (by rw[e0];exact he)],by unfold Ka;rw[if_neg (by rw[e0];exact he)]⟩
theorem Q7i {l:List Nat}{c:Nat}(h0:l.length≠0)(h1:Dy (gN l 0)≠0)(h:Pa l=(0,c))(hk:c<Ld (Dy (gN l 0))∨¬Jm c):H8 l=4∧Hb l=0∧Ka l=0:=by
 have e0:H8 l=4:=by
  unfold H8;rw[if_neg h0,if_neg h1,if_neg (by rw[h];simp),if_neg]
  unfold Vu;rw[h];exact fun hh=>hh hk
 exact⟨e0,by unfold Hb;rw[if_neg (by rw[e0];decide)],by unfold Ka;rw[if_neg (by rw[e0];decide)]⟩
theorem Q3t {l:List Nat}{c:Nat}(h0:l.length≠0)(h1:Dy (gN l 0)≠0)(h:Pa l=(0,c))(hk:¬(c<Ld (Dy (gN l 0))∨¬Jm c)):H8 l=0∧Hb l=c∧Ka l=Dy (gN l 0):=by
 have e0:H8 l=0:=by
  unfold H8;rw[if_neg h0,if_neg h1,if_neg (by rw[h];simp),if_pos]
  unfold Vu;rw[h];exact hk
 exact⟨e0,by unfold Hb;rw[if_pos e0,h],by unfold Ka;rw[if_pos e0]⟩
theorem Q3c (b:Nat):Dy b≤4:=by unfold Dy;split<;>(try split)<;>(try split)<;>(try split)<;>(try split)<;>omega
theorem Q3d (b:Nat):Ja b<128:=by unfold Ja;split<;>(try split)<;>(try split)<;>(try split)<;>(try split)<;>omega
theorem Z0e {cc k:Nat}(h1:1≤k)(h4:k<4)(h:cc<128*64^(k-1)):cc<1000000:=by
 have:k=1∨k=2∨k=3:=by omega
 rcases this with rfl|rfl|rfl<;>simp at h<;>omega
theorem Z0d {cc k x:Nat}(h1:1≤k)(h:cc<128*64^(k-1)):cc*64+x%64<128*64^(k+1-1):=by
 have e:64^(k+1-1)=64^(k-1)*64:=by rw[←Nat.pow_succ];congr 1;omega
 rw[e,←Nat.mul_assoc];omega
theorem or6 {c g:Nat}(hc:c<1000000):bits .or .i64 ((c:Int)*64) ((g:Int)%64)=((c*64+g%64:Nat):Int):=by
 rw[bits_join .i64 32 (by decide) (fun n h0 h1=>by rw[IntKind.wrap_i64];omega) 6 _ _ (by omega) (by omega) (by omega) (by omega) (by omega) (by omega)]
 omega
theorem Q3r (w:World)(s:ByteArray)(h0:(Ao s).length≠0)(h1:Dy (gN (Ao s) 0)≠0):Calls Tryz.prog 38 #[.string s] w fun e w'=>e=.returned (.tuple #[.int .i64 (Hb (Ao s)),.int .i64 (Ka (Ao s)),.int .i64 (H8 (Ao s))])∧w=w':=by
 have hemp:=V1 h0;have hsz:0<s.size:=by rw[←Fi];omega
 have HN:=A6 (Fi s);have HB:=A6 (Te s);have HL:=A6 (J5k (J4q (Te s) 0));have HI:Hid (∀(k:Nat) (h:k<s.size),(s[k]'h).toNat=gN (Ao s) k):=A6 fun k h=>Tf s k h
 have Yw:∀h,(s[0]'h).toNat=gN (Ao s) 0:=fun h=>Tf s 0 h
 have HR:Hid (Pa (Ao s)=Jn (Ao s) (Dy (gN (Ao s) 0)-1) 1 (Ja (gN (Ao s) 0))):=A6 rfl;have HF:Hid (∀(e c:Nat),e≠0→Pa (Ao s)=(e,c)→H8 (Ao s)=e∧Hb (Ao s)=0∧Ka (Ao s)=0):=A6 fun e c he h=>J8l h0 h1 he h
 have HX:Hid (∀(c:Nat),Pa (Ao s)=(0,c)→(c<Ld (Dy (gN (Ao s) 0))∨¬Jm c)→H8 (Ao s)=4∧Hb (Ao s)=0∧Ka (Ao s)=0):=A6 fun c h hk=>Q7i h0 h1 h hk
 have HG:Hid (∀(c:Nat),Pa (Ao s)=(0,c)→¬(c<Ld (Dy (gN (Ao s) 0))∨¬Jm c)→H8 (Ao s)=0∧Hb (Ao s)=c∧Ka (Ao s)=Dy (gN (Ao s) 0)):=A6 fun c h hk=>Q3t h0 h1 h hk
 have hn4:=Q3c (gN (Ao s) 0);have hc1:=Q3d (gN (Ao s) 0);clear h0;generalize hb:gN (Ao s) 0=b at*;generalize hn:Dy b=n at*;generalize hcc:Ja b=c0 at*;generalize hE:H8 (Ao s)=ee at*;generalize hC:Hb (Ao s)=ec at*;generalize hW:Ka (Ao s)=ew at*;clear hb hn hcc hE hC hW;have hz:((n:Int)==0)=false:=by simp;omega
 go_enter Tryz.func38,Tryz.ntmps38
 go_wp2_with fail
 refine(HL.out _).mono ?_
 rintro e w' ⟨rfl,rfl⟩;clear HL Yw;go_wp2_with fail
 go_loopw [6,7] (fun c i wr=>∃(k cc:Nat),c=.int .i64 cc∧i=.int .i64 k∧1≤k∧k≤n∧Hid (Pa (Ao s)=Jn (Ao s) (n-k) k cc)∧Hid (cc<128*64^(k-1))∧k≤s.size∧wr=w) (fun _ i _=>n-(intOf i).toNat)
 case atStart=>exact⟨1,c0,rfl,rfl,by omega,by omega,HR,A6 (by simpa using hc1),by omega,rfl⟩
 case round=>
  obtain⟨k,cc,rfl,rfl,hk1,hk2,hr,hcc,hks,rfl⟩:=hrel;by_cases hkn:k<n
  ·have hbd:cc<1000000:=Z0e hk1 (by omega) hcc.out
   by_cases hke:k=s.size
   ·have HA:=A6 (HF.out 3 cc (by decide) (by rw[hr.out,show n-k=(n-k-1)+1 by omega];exact J6u (by rw[HN.out];exact hke)))
    exact I27
   ·have hks2:k<s.size:=by omega
    have hik:=HI.out k hks2;have hg:=J4q HB.out k;by_cases h2:gN (Ao s) k/64=2
    ·go_wp2_with fail
     rw[or6 hbd];refine⟨⟨k+1,cc*64+gN (Ao s) k%64,rfl,by go_num,by omega,by omega,A6 ?_,A6 (Z0d hk1 hcc.out),by omega,trivial⟩,by simp[intOf];omega⟩
     rw[hr.out,show n-k=(n-(k+1))+1 by omega]
     exact Hg (by rw[HN.out];exact hke) h2
    ·have HA:=A6 (HF.out 4 cc (by decide) (by rw[hr.out,show n-k=(n-k-1)+1 by omega];exact J6v (by rw[HN.out];exact hke) h2))
     exact I27
  ·obtain rfl:k=n:=by omega
   have hr0:Hid (Pa (Ao s)=(0,cc)):=A6 (by rw[hr.out,Nat.sub_self];rfl)
   have hbd:cc<100000000000:=by
    have h1:=hcc.out;have:k=1∨k=2∨k=3∨k=4:=by omega
    rcases this with rfl|rfl|rfl|rfl<;>simp at h1<;>omega
   clear HF HR HB HN HI hr;have HLe:=A6 (Q3b k);generalize Ld k=m at*;go_wp2_with fail
   refine(HLe.out _).mono ?_
   rintro e w' ⟨rfl,rfl⟩;by_cases hlt:cc<m
   ·have HA:=A6 (HX.out cc hr0.out (.inl hlt))
    clear HX HG hr0;exact I27
   ·by_cases hsc:Jm cc
    ·have HA:=A6 (HG.out cc hr0.out (fun hh=>hh.elim hlt (fun h=>h hsc)))
     have HS:=A6 (Wh cc);rw[decide_eq_true hsc]at HS;exact I114
    ·have HA:=A6 (HX.out cc hr0.out (.inr hsc))
     have HS:=A6 (Wh cc);rw[decide_eq_false hsc]at HS;exact I114
theorem Q2 (s:ByteArray)(w:World):Calls Tryz.prog 38 #[.string s] w fun e w'=>e=.returned (.tuple #[.int .i64 (Hb (Ao s)),.int .i64 (Ka (Ao s)),.int .i64 (H8 (Ao s))])∧w=w':=by
 by_cases h0:(Ao s).length=0
 ·exact Q7h w s h0
 by_cases h1:Dy (gN (Ao s) 0)=0
 ·exact Q3s w s h0 h1
 ·exact Q3r w s h0 h1
