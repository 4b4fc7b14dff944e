/-
  Part ZUtfPut.
-/
import Derived.Test.YtiahhfglhlgfiaaGreatZBase
import Derived.Lib.Strings
import Derived.Laws.BitsAllLaws
import Derived.Laws.Shifts
set_option maxRecDepth 100000
set_option maxHeartbeats 16000000
set_option linter.unusedVariables false
set_option linter.unusedSimpArgs false
namespace Go.Proofs.YtiahhfglhlgfiaaGreat
open Go.RowKit
open _root_.List renaming length_map→D8
section
variable {l:List Nat}
theorem bT {c:Int}(h:Jb c)(w:World):Calls Tryz.prog 101 #[.int .i64 c] w fun e w'=>e=.returned (.bool true)∧w=w':=by
 obtain⟨h0,h1,h2⟩:=h;by_cases h3:c<55296
 ·clear h2
  exact I17
 ·have h4:57343<c:=by omega
  clear h2;exact I17
theorem gK {c:Int}(h:¬Jb c)(w:World):Calls Tryz.prog 101 #[.int .i64 c] w fun e w'=>e=.returned (.bool false)∧w=w':=by
 unfold Jb at h;by_cases h0:0≤c
 ·by_cases h1:c≤1114111
  ·have h3:¬c<55296:=by omega
   have h4:¬57343<c:=by omega
   clear h;exact I17
  ·clear h
   exact I17
 ·clear h
  exact I17
theorem qH {u u' v v':Value}(h1:u=u')(h2:v=v'):Ending.returned (.tuple #[u,v])=.returned (.tuple #[u',v']):=by rw[h1,h2]
theorem vR {a b:Int}(h:a=b):Value.int .i64 a=.int .i64 b:=by rw[h]
theorem eT {b:Nat}(hb:b<256)(w:World):Calls Tryz.prog 99 #[.int .u8 b] w fun e w'=>e=.returned (.tuple #[.int .i64 (Dt b),.int .i64 (Hv b)])∧w=w':=by
 by_cases c1:b<128
 ·obtain⟨e1,e2⟩:=kQ c1
  exact I35
 by_cases c2:b<192
 ·have e1:=xP (by omega) c2
  have e2:Hv b=0:=by unfold Hv;rw[if_neg c1,if_pos c2]
  exact I35
 by_cases c3:b<224
 ·obtain⟨e1,e2⟩:=kP (by omega) c3
  exact I25
 by_cases c4:b<240
 ·obtain⟨e1,e2⟩:=kO (by omega) c4
  exact I25
 by_cases c5:b<248
 ·obtain⟨e1,e2⟩:=kN (by omega) c5
  exact I25
 ·have e1:=xO (b:=b) (by omega)
  have e2:Hv b=0:=by unfold Hv;rw[if_neg c1,if_neg c2,if_neg c3,if_neg c4,if_neg c5]
  exact I35
theorem nH (n:Nat)(w:World):Calls Tryz.prog 100 #[.int .i64 n] w fun e w'=>e=.returned (.int .i64 (L0 n))∧w=w':=by
 by_cases c1:n=2
 ·subst c1
  exact I24
 by_cases c2:n=3
 ·subst c2
  exact I24
 by_cases c3:n=4
 ·subst c3
  exact I24
 have e:L0 n=0:=by unfold L0;rw[if_neg c1,if_neg c2,if_neg c3]
 rw[e];have k1:((n:Int)==2)=false:=by simp;omega
 have k2:((n:Int)==3)=false:=by simp;omega
 have k3:((n:Int)==4)=false:=by simp;omega
 clear c1 c2 c3 e;exact I24
theorem Vm (c:Int)(w:World):Calls Tryz.prog 101 #[.int .i64 c] w fun e w'=>e=.returned (.bool (decide (Jb c)))∧w=w':=by
 by_cases h:Jb c
 ·rw[decide_eq_true h];exact bT h w
 ·rw[decide_eq_false h];exact gK h w
theorem rV (w:World)(s:ByteArray)(h:(Ao s).length=0):Calls Tryz.prog 76 #[.string s] w fun e w'=>e=.returned (.tuple #[.int .i64 (Gq (Ao s)),.int .i64 (Jq (Ao s)),.int .i64 (Gp (Ao s))])∧w=w':=by
 have e0:Gp (Ao s)=3:=by unfold Gp;rw[if_pos h]
 have e1:Gq (Ao s)=0:=by unfold Gq;rw[if_neg (by rw[e0];decide)]
 have e2:Jq (Ao s)=0:=by unfold Jq;rw[if_neg (by rw[e0];decide)]
 rw[e0,e1,e2];have k:s.toList=[]:=by
  rw[Lib.toList_data];have:(Ao s).length=s.data.toList.length:=by unfold Ao;rw[D8]
  rw[this]at h;exact List.length_eq_zero_iff.1 h
 clear h e0 e1 e2;go_enter Tryz.func76,Tryz.ntmps76
 go_wp2_with fail
 go_ret3
 exact⟨rfl,rfl⟩
theorem Zp (s:ByteArray):(Ao s).length=s.toList.length:=by
 rw[Lib.toList_data];unfold Ao;rw[D8]
theorem Uh {s:ByteArray}(h:(Ao s).length≠0):s.toList.isEmpty=false:=by
 rw[Zp]at h;cases hs:s.toList with
 |nil=>rw[hs]at h;exact absurd rfl h
 |cons a b=>rfl
theorem nX (w:World)(s:ByteArray)(h:(Ao s).length≠0)(h1:Dt (gN (Ao s) 0)=0):Calls Tryz.prog 76 #[.string s] w fun e w'=>e=.returned (.tuple #[.int .i64 (Gq (Ao s)),.int .i64 (Jq (Ao s)),.int .i64 (Gp (Ao s))])∧w=w':=by
 have e0:Gp (Ao s)=4:=by unfold Gp;rw[if_neg h,if_pos h1]
 have e1:Gq (Ao s)=0:=by unfold Gq;rw[if_neg (by rw[e0];decide)]
 have e2:Jq (Ao s)=0:=by unfold Jq;rw[if_neg (by rw[e0];decide)]
 rw[e0,e1,e2];have hemp:=Uh h;have hsz:0<s.size:=by rw[←Ho];omega
 have HL:=A4 (eT (dY (Sr s) 0));rw[h1]at HL;have hi:∀h,(s[0]'h).toNat=gN (Ao s) 0:=fun h=>Ss s 0 h
 clear h e0 e1 e2 h1;go_enter Tryz.func76,Tryz.ntmps76
 go_wp2_with fail
 refine(HL.out _).mono ?_
 rintro e w' ⟨rfl,rfl⟩;go_wp2_with fail
 go_ret3
 exact⟨rfl,rfl⟩
theorem fZ {f c k:Nat}(h:k=l.length):Jc l (f+1) k c=(3,c):=by unfold Jc;rw[if_pos h]
theorem gA {f c k:Nat}(h:k≠l.length)(h2:gN l k/64≠2):Jc l (f+1) k c=(4,c):=by unfold Jc;rw[if_neg h,if_pos h2]
theorem iT {e c:Nat}(h0:l.length≠0)(h1:Dt (gN l 0)≠0)(he:e≠0)(h:Nk l=(e,c)):Gp l=e∧Gq l=0∧Jq l=0:=by
 have e0:Gp l=e:=by unfold Gp;rw[if_neg h0,if_neg h1,h,if_pos he]
 exact⟨e0,by unfold Gq;rw[if_neg (by rw[e0];exact he)],by unfold Jq;rw[if_neg (by rw[e0];exact he)]⟩
theorem rW {c:Nat}(h0:l.length≠0)(h1:Dt (gN l 0)≠0)(h:Nk l=(0,c))(hk:c<L0 (Dt (gN l 0))∨¬Jb c):Gp l=4∧Gq l=0∧Jq l=0:=by
 have e0:Gp l=4:=by
  unfold Gp;rw[if_neg h0,if_neg h1,if_neg (by rw[h];simp),if_neg]
  unfold V9;rw[h];exact fun hh=>hh hk
 exact⟨e0,by unfold Gq;rw[if_neg (by rw[e0];decide)],by unfold Jq;rw[if_neg (by rw[e0];decide)]⟩
theorem nY {c:Nat}(h0:l.length≠0)(h1:Dt (gN l 0)≠0)(h:Nk l=(0,c))(hk:¬(c<L0 (Dt (gN l 0))∨¬Jb c)):Gp l=0∧Gq l=c∧Jq l=Dt (gN l 0):=by
 have e0:Gp l=0:=by
  unfold Gp;rw[if_neg h0,if_neg h1,if_neg (by rw[h];simp),if_pos]
  unfold V9;rw[h];exact hk
 exact⟨e0,by unfold Gq;rw[if_pos e0,h],by unfold Jq;rw[if_pos e0]⟩
theorem nI (b:Nat):Dt b≤4:=by unfold Dt;split<;>(try split)<;>(try split)<;>(try split)<;>(try split)<;>omega
theorem nJ (b:Nat):Hv b<128:=by unfold Hv;split<;>(try split)<;>(try split)<;>(try split)<;>(try split)<;>omega
theorem uQ {cc k:Nat}(h1:1≤k)(h4:k<4)(h:cc<128*64^(k-1)):cc<1000000:=by
 have:k=1∨k=2∨k=3:=by omega
 rcases this with rfl|rfl|rfl<;>simp at h<;>omega
theorem uP {cc k x:Nat}(h1:1≤k)(h:cc<128*64^(k-1)):cc*64+x%64<128*64^(k+1-1):=by
 have e:64^(k+1-1)=64^(k-1)*64:=by rw[←Nat.pow_succ];congr 1;omega
 rw[e,←Nat.mul_assoc];omega
theorem zY {c g:Nat}(hc:c<1000000):bits .or .i64 ((c:Int)*64) ((g:Int)%64)=((c*64+g%64:Nat):Int):=by
 rw[bits_join .i64 32 (by decide) (fun n h0 h1=>by rw[IntKind.wrap_i64];omega) 6 _ _ (by omega) (by omega) (by omega) (by omega) (by omega) (by omega)]
 omega
theorem nW (w:World)(s:ByteArray)(h0:(Ao s).length≠0)(h1:Dt (gN (Ao s) 0)≠0):Calls Tryz.prog 76 #[.string s] w fun e w'=>e=.returned (.tuple #[.int .i64 (Gq (Ao s)),.int .i64 (Jq (Ao s)),.int .i64 (Gp (Ao s))])∧w=w':=by
 have hemp:=Uh h0;have hsz:0<s.size:=by rw[←Ho];omega
 have HN:=A4 (Ho s);have HB:=A4 (Sr s);have HL:=A4 (eT (dY (Sr s) 0));have HI:Hid (∀(k:Nat) (h:k<s.size),(s[k]'h).toNat=gN (Ao s) k):=A4 fun k h=>Ss s k h
 have tS:∀h,(s[0]'h).toNat=gN (Ao s) 0:=fun h=>Ss s 0 h
 have HR:Hid (Nk (Ao s)=Jc (Ao s) (Dt (gN (Ao s) 0)-1) 1 (Hv (gN (Ao s) 0))):=A4 rfl;have HF:Hid (∀(e c:Nat),e≠0→Nk (Ao s)=(e,c)→Gp (Ao s)=e∧Gq (Ao s)=0∧Jq (Ao s)=0):=A4 fun e c he h=>iT h0 h1 he h
 have HX:Hid (∀(c:Nat),Nk (Ao s)=(0,c)→(c<L0 (Dt (gN (Ao s) 0))∨¬Jb c)→Gp (Ao s)=4∧Gq (Ao s)=0∧Jq (Ao s)=0):=A4 fun c h hk=>rW h0 h1 h hk
 have HG:Hid (∀(c:Nat),Nk (Ao s)=(0,c)→¬(c<L0 (Dt (gN (Ao s) 0))∨¬Jb c)→Gp (Ao s)=0∧Gq (Ao s)=c∧Jq (Ao s)=Dt (gN (Ao s) 0)):=A4 fun c h hk=>nY h0 h1 h hk
 have hn4:=nI (gN (Ao s) 0);have hc1:=nJ (gN (Ao s) 0);clear h0;generalize hb:gN (Ao s) 0=b at*;generalize hn:Dt b=n at*;generalize hcc:Hv b=c0 at*;generalize hE:Gp (Ao s)=ee at*;generalize hC:Gq (Ao s)=ec at*;generalize hW:Jq (Ao s)=ew at*;clear hb hn hcc hE hC hW;have hz:((n:Int)==0)=false:=by simp;omega
 go_enter Tryz.func76,Tryz.ntmps76
 go_wp2_with fail
 refine(HL.out _).mono ?_
 rintro e w' ⟨rfl,rfl⟩;clear HL tS;go_wp2_with fail
 go_loopw [6,7] (fun c i wr=>∃(k cc:Nat),c=.int .i64 cc∧i=.int .i64 k∧1≤k∧k≤n∧Hid (Nk (Ao s)=Jc (Ao s) (n-k) k cc)∧Hid (cc<128*64^(k-1))∧k≤s.size∧wr=w) (fun _ i _=>n-(intOf i).toNat)
 case atStart=>exact⟨1,c0,rfl,rfl,by omega,by omega,HR,A4 (by simpa using hc1),by omega,rfl⟩
 case round=>
  obtain⟨k,cc,rfl,rfl,hk1,hk2,hr,hcc,hks,rfl⟩:=hrel;by_cases hkn:k<n
  ·have hbd:cc<1000000:=uQ hk1 (by omega) hcc.out
   by_cases hke:k=s.size
   ·have HA:=A4 (HF.out 3 cc (by decide) (by rw[hr.out,show n-k=(n-k-1)+1 by omega];exact fZ (by rw[HN.out];exact hke)))
    exact I27
   ·have hks2:k<s.size:=by omega
    have hik:=HI.out k hks2;have hg:=dY HB.out k;by_cases h2:gN (Ao s) k/64=2
    ·go_wp2_with fail
     rw[zY hbd];refine⟨⟨k+1,cc*64+gN (Ao s) k%64,rfl,by go_num,by omega,by omega,A4 ?_,A4 (uP hk1 hcc.out),by omega,trivial⟩,by simp[intOf];omega⟩
     rw[hr.out,show n-k=(n-(k+1))+1 by omega]
     exact Gu (by rw[HN.out];exact hke) h2
    ·have HA:=A4 (HF.out 4 cc (by decide) (by rw[hr.out,show n-k=(n-k-1)+1 by omega];exact gA (by rw[HN.out];exact hke) h2))
     exact I27
  ·obtain rfl:k=n:=by omega
   have hr0:Hid (Nk (Ao s)=(0,cc)):=A4 (by rw[hr.out,Nat.sub_self];rfl)
   have hbd:cc<100000000000:=by
    have h1:=hcc.out;have:k=1∨k=2∨k=3∨k=4:=by omega
    rcases this with rfl|rfl|rfl|rfl<;>simp at h1<;>omega
   clear HF HR HB HN HI hr;have HLe:=A4 (nH k);generalize L0 k=m at*;go_wp2_with fail
   refine(HLe.out _).mono ?_
   rintro e w' ⟨rfl,rfl⟩;by_cases hlt:cc<m
   ·have HA:=A4 (HX.out cc hr0.out (.inl hlt))
    clear HX HG hr0;exact I27
   ·by_cases hsc:Jb cc
    ·have HA:=A4 (HG.out cc hr0.out (fun hh=>hh.elim hlt (fun h=>h hsc)))
     have HS:=A4 (Vm cc);rw[decide_eq_true hsc]at HS;exact I137
    ·have HA:=A4 (HX.out cc hr0.out (.inr hsc))
     have HS:=A4 (Vm cc);rw[decide_eq_false hsc]at HS;exact I137
theorem dA (s:ByteArray)(w:World):Calls Tryz.prog 76 #[.string s] w fun e w'=>e=.returned (.tuple #[.int .i64 (Gq (Ao s)),.int .i64 (Jq (Ao s)),.int .i64 (Gp (Ao s))])∧w=w':=by
 by_cases h0:(Ao s).length=0
 ·exact rV w s h0
 by_cases h1:Dt (gN (Ao s) 0)=0
 ·exact nX w s h0 h1
 ·exact nW w s h0 h1
end
