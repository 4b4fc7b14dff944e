/-
  Part ZUtfPut.
-/
import Derived.Test.YtkaefdmhlmlhbaaGreatZRopeM
import Derived.Lib.Strings
import Derived.Laws.BitsAllLaws
import Derived.Laws.Shifts
set_option maxRecDepth 100000
set_option maxHeartbeats 16000000
set_option linter.unusedVariables false
set_option linter.unusedSimpArgs false
namespace Go.Proofs.YtkaefdmhlmlhbaaGreat
open Go.RowKit
open _root_.List renaming length_map→Cs
section
variable {l:List Nat}
theorem Vl {c:Int}(h:El c)(w:World):Calls Tryz.prog 37 #[.int .i64 c] w fun e w'=>e=.returned (.bool true)∧w=w':=by
 obtain⟨h0,h1,h2⟩:=h;by_cases h3:c<55296
 ·clear h2
  exact I18
 ·have h4:57343<c:=by omega
  clear h2;exact I18
theorem Xh {c:Int}(h:¬El c)(w:World):Calls Tryz.prog 37 #[.int .i64 c] w fun e w'=>e=.returned (.bool false)∧w=w':=by
 unfold El at h;by_cases h0:0≤c
 ·by_cases h1:c≤1114111
  ·have h3:¬c<55296:=by omega
   have h4:¬57343<c:=by omega
   clear h;exact I18
  ·clear h
   exact I18
 ·clear h
  exact I18
theorem uE {u u' v v':Value}(h1:u=u')(h2:v=v'):Ending.returned (.tuple #[u,v])=.returned (.tuple #[u',v']):=by rw[h1,h2]
theorem J0f {a b:Int}(h:a=b):Value.int .i64 a=.int .i64 b:=by rw[h]
theorem iG {b:Nat}(hb:b<256)(w:World):Calls Tryz.prog 54 #[.int .u8 b] w fun e w'=>e=.returned (.tuple #[.int .i64 (Dz b),.int .i64 (Jm b)])∧w=w':=by
 by_cases c1:b<128
 ·obtain⟨e1,e2⟩:=gF c1
  exact I35
 by_cases c2:b<192
 ·have e1:=xO (by omega) c2
  have e2:Jm b=0:=by unfold Jm;rw[if_neg c1,if_pos c2]
  exact I35
 by_cases c3:b<224
 ·obtain⟨e1,e2⟩:=gD (by omega) c3
  exact I26
 by_cases c4:b<240
 ·obtain⟨e1,e2⟩:=gC (by omega) c4
  exact I26
 by_cases c5:b<248
 ·obtain⟨e1,e2⟩:=gA (by omega) c5
  exact I26
 ·have e1:=xN (b:=b) (by omega)
  have e2:Jm b=0:=by unfold Jm;rw[if_neg c1,if_neg c2,if_neg c3,if_neg c4,if_neg c5]
  exact I35
theorem qO (n:Nat)(w:World):Calls Tryz.prog 55 #[.int .i64 n] w fun e w'=>e=.returned (.int .i64 (Ly n))∧w=w':=by
 by_cases c1:n=2
 ·subst c1
  exact I25
 by_cases c2:n=3
 ·subst c2
  exact I25
 by_cases c3:n=4
 ·subst c3
  exact I25
 have e:Ly n=0:=by unfold Ly;rw[if_neg c1,if_neg c2,if_neg c3]
 rw[e];have k1:((n:Int)==2)=false:=by simp;omega
 have k2:((n:Int)==3)=false:=by simp;omega
 have k3:((n:Int)==4)=false:=by simp;omega
 clear c1 c2 c3 e;exact I25
theorem Xg (c:Int)(w:World):Calls Tryz.prog 37 #[.int .i64 c] w fun e w'=>e=.returned (.bool (decide (El c)))∧w=w':=by
 by_cases h:El c
 ·rw[decide_eq_true h];exact Vl h w
 ·rw[decide_eq_false h];exact Xh h w
theorem vS (w:World)(s:ByteArray)(h:(Ao s).length=0):Calls Tryz.prog 38 #[.string s] w fun e w'=>e=.returned (.tuple #[.int .i64 (Ex (Ao s)),.int .i64 (Eu (Ao s)),.int .i64 (Eg (Ao s))])∧w=w':=by
 have e0:Eg (Ao s)=3:=by unfold Eg;rw[if_pos h]
 have e1:Ex (Ao s)=0:=by unfold Ex;rw[if_neg (by rw[e0];decide)]
 have e2:Eu (Ao s)=0:=by unfold Eu;rw[if_neg (by rw[e0];decide)]
 rw[e0,e1,e2];have k:s.toList=[]:=by
  rw[Lib.toList_data];have:(Ao s).length=s.data.toList.length:=by unfold Ao;rw[Cs]
  rw[this]at h;exact List.length_eq_zero_iff.1 h
 clear h e0 e1 e2;go_enter Tryz.func38,Tryz.ntmps38
 go_wp2_with fail
 go_ret3
 exact⟨rfl,rfl⟩
theorem bU (s:ByteArray):(Ao s).length=s.toList.length:=by
 rw[Lib.toList_data];unfold Ao;rw[Cs]
theorem Vx {s:ByteArray}(h:(Ao s).length≠0):s.toList.isEmpty=false:=by
 rw[bU]at h;cases hs:s.toList with
 |nil=>rw[hs]at h;exact absurd rfl h
 |cons a b=>rfl
theorem rG (w:World)(s:ByteArray)(h:(Ao s).length≠0)(h1:Dz (gN (Ao s) 0)=0):Calls Tryz.prog 38 #[.string s] w fun e w'=>e=.returned (.tuple #[.int .i64 (Ex (Ao s)),.int .i64 (Eu (Ao s)),.int .i64 (Eg (Ao s))])∧w=w':=by
 have e0:Eg (Ao s)=4:=by unfold Eg;rw[if_neg h,if_pos h1]
 have e1:Ex (Ao s)=0:=by unfold Ex;rw[if_neg (by rw[e0];decide)]
 have e2:Eu (Ao s)=0:=by unfold Eu;rw[if_neg (by rw[e0];decide)]
 rw[e0,e1,e2];have hemp:=Vx h;have hsz:0<s.size:=by rw[←Dx];omega
 have HL:=A6 (iG (gH (Pm s) 0));rw[h1]at HL;have hi:∀h,(s[0]'h).toNat=gN (Ao s) 0:=fun h=>U6 s 0 h
 clear h e0 e1 e2 h1;go_enter Tryz.func38,Tryz.ntmps38
 go_wp2_with fail
 refine(HL.out _).mono ?_
 rintro e w' ⟨rfl,rfl⟩;go_wp2_with fail
 go_ret3
 exact⟨rfl,rfl⟩
theorem jS {f c k:Nat}(h:k=l.length):Fh l (f+1) k c=(3,c):=by unfold Fh;rw[if_pos h]
theorem jT {f c k:Nat}(h:k≠l.length)(h2:gN l k/64≠2):Fh l (f+1) k c=(4,c):=by unfold Fh;rw[if_neg h,if_pos h2]
theorem lN {e c:Nat}(h0:l.length≠0)(h1:Dz (gN l 0)≠0)(he:e≠0)(h:Lw l=(e,c)):Eg l=e∧Ex l=0∧Eu l=0:=by
 have e0:Eg l=e:=by unfold Eg;rw[if_neg h0,if_neg h1,h,if_pos he]
 exact⟨e0,by unfold Ex;rw[if_neg (by rw[e0];exact he)],by unfold Eu;rw[if_neg (by rw[e0];exact he)]⟩
theorem vT {c:Nat}(h0:l.length≠0)(h1:Dz (gN l 0)≠0)(h:Lw l=(0,c))(hk:c<Ly (Dz (gN l 0))∨¬El c):Eg l=4∧Ex l=0∧Eu l=0:=by
 have e0:Eg l=4:=by
  unfold Eg;rw[if_neg h0,if_neg h1,if_neg (by rw[h];simp),if_neg]
  unfold Uf;rw[h];exact fun hh=>hh hk
 exact⟨e0,by unfold Ex;rw[if_neg (by rw[e0];decide)],by unfold Eu;rw[if_neg (by rw[e0];decide)]⟩
theorem rH {c:Nat}(h0:l.length≠0)(h1:Dz (gN l 0)≠0)(h:Lw l=(0,c))(hk:¬(c<Ly (Dz (gN l 0))∨¬El c)):Eg l=0∧Ex l=c∧Eu l=Dz (gN l 0):=by
 have e0:Eg l=0:=by
  unfold Eg;rw[if_neg h0,if_neg h1,if_neg (by rw[h];simp),if_pos]
  unfold Uf;rw[h];exact hk
 exact⟨e0,by unfold Ex;rw[if_pos e0,h],by unfold Eu;rw[if_pos e0]⟩
theorem qP (b:Nat):Dz b≤4:=by unfold Dz;split<;>(try split)<;>(try split)<;>(try split)<;>(try split)<;>omega
theorem qQ (b:Nat):Jm b<128:=by unfold Jm;split<;>(try split)<;>(try split)<;>(try split)<;>(try split)<;>omega
theorem zD {cc k:Nat}(h1:1≤k)(h4:k<4)(h:cc<128*64^(k-1)):cc<1000000:=by
 have:k=1∨k=2∨k=3:=by omega
 rcases this with rfl|rfl|rfl<;>simp at h<;>omega
theorem zC {cc k x:Nat}(h1:1≤k)(h:cc<128*64^(k-1)):cc*64+x%64<128*64^(k+1-1):=by
 have e:64^(k+1-1)=64^(k-1)*64:=by rw[←Nat.pow_succ];congr 1;omega
 rw[e,←Nat.mul_assoc];omega
theorem or6 {c g:Nat}(hc:c<1000000):bits .or .i64 ((c:Int)*64) ((g:Int)%64)=((c*64+g%64:Nat):Int):=by
 rw[bits_join .i64 32 (by decide) (fun n h0 h1=>by rw[IntKind.wrap_i64];omega) 6 _ _ (by omega) (by omega) (by omega) (by omega) (by omega) (by omega)]
 omega
theorem rF (w:World)(s:ByteArray)(h0:(Ao s).length≠0)(h1:Dz (gN (Ao s) 0)≠0):Calls Tryz.prog 38 #[.string s] w fun e w'=>e=.returned (.tuple #[.int .i64 (Ex (Ao s)),.int .i64 (Eu (Ao s)),.int .i64 (Eg (Ao s))])∧w=w':=by
 have hemp:=Vx h0;have hsz:0<s.size:=by rw[←Dx];omega
 have HN:=A6 (Dx s);have HB:=A6 (Pm s);have HL:=A6 (iG (gH (Pm s) 0));have HI:Hid (∀(k:Nat) (h:k<s.size),(s[k]'h).toNat=gN (Ao s) k):=A6 fun k h=>U6 s k h
 have Zl:∀h,(s[0]'h).toNat=gN (Ao s) 0:=fun h=>U6 s 0 h
 have HR:Hid (Lw (Ao s)=Fh (Ao s) (Dz (gN (Ao s) 0)-1) 1 (Jm (gN (Ao s) 0))):=A6 rfl;have HF:Hid (∀(e c:Nat),e≠0→Lw (Ao s)=(e,c)→Eg (Ao s)=e∧Ex (Ao s)=0∧Eu (Ao s)=0):=A6 fun e c he h=>lN h0 h1 he h
 have HX:Hid (∀(c:Nat),Lw (Ao s)=(0,c)→(c<Ly (Dz (gN (Ao s) 0))∨¬El c)→Eg (Ao s)=4∧Ex (Ao s)=0∧Eu (Ao s)=0):=A6 fun c h hk=>vT h0 h1 h hk
 have HG:Hid (∀(c:Nat),Lw (Ao s)=(0,c)→¬(c<Ly (Dz (gN (Ao s) 0))∨¬El c)→Eg (Ao s)=0∧Ex (Ao s)=c∧Eu (Ao s)=Dz (gN (Ao s) 0)):=A6 fun c h hk=>rH h0 h1 h hk
 have hn4:=qP (gN (Ao s) 0);have hc1:=qQ (gN (Ao s) 0);clear h0;generalize hb:gN (Ao s) 0=b at*;generalize hn:Dz b=n at*;generalize hcc:Jm b=c0 at*;generalize hE:Eg (Ao s)=ee at*;generalize hC:Ex (Ao s)=ec at*;generalize hW:Eu (Ao s)=ew at*;clear hb hn hcc hE hC hW;have hz:((n:Int)==0)=false:=by simp;omega
 go_enter Tryz.func38,Tryz.ntmps38
 go_wp2_with fail
 refine(HL.out _).mono ?_
 rintro e w' ⟨rfl,rfl⟩;clear HL Zl;go_wp2_with fail
 go_loopw [6,7] (fun c i wr=>∃(k cc:Nat),c=.int .i64 cc∧i=.int .i64 k∧1≤k∧k≤n∧Hid (Lw (Ao s)=Fh (Ao s) (n-k) k cc)∧Hid (cc<128*64^(k-1))∧k≤s.size∧wr=w) (fun _ i _=>n-(intOf i).toNat)
 case atStart=>exact⟨1,c0,rfl,rfl,by omega,by omega,HR,A6 (by simpa using hc1),by omega,rfl⟩
 case round=>
  obtain⟨k,cc,rfl,rfl,hk1,hk2,hr,hcc,hks,rfl⟩:=hrel;by_cases hkn:k<n
  ·have hbd:cc<1000000:=zD hk1 (by omega) hcc.out
   by_cases hke:k=s.size
   ·have HA:=A6 (HF.out 3 cc (by decide) (by rw[hr.out,show n-k=(n-k-1)+1 by omega];exact jS (by rw[HN.out];exact hke)))
    exact I28
   ·have hks2:k<s.size:=by omega
    have hik:=HI.out k hks2;have hg:=gH HB.out k;by_cases h2:gN (Ao s) k/64=2
    ·go_wp2_with fail
     rw[or6 hbd];refine⟨⟨k+1,cc*64+gN (Ao s) k%64,rfl,by go_num,by omega,by omega,A6 ?_,A6 (zC hk1 hcc.out),by omega,trivial⟩,by simp[intOf];omega⟩
     rw[hr.out,show n-k=(n-(k+1))+1 by omega]
     exact Hv (by rw[HN.out];exact hke) h2
    ·have HA:=A6 (HF.out 4 cc (by decide) (by rw[hr.out,show n-k=(n-k-1)+1 by omega];exact jT (by rw[HN.out];exact hke) h2))
     exact I28
  ·obtain rfl:k=n:=by omega
   have hr0:Hid (Lw (Ao s)=(0,cc)):=A6 (by rw[hr.out,Nat.sub_self];rfl)
   have hbd:cc<100000000000:=by
    have h1:=hcc.out;have:k=1∨k=2∨k=3∨k=4:=by omega
    rcases this with rfl|rfl|rfl|rfl<;>simp at h1<;>omega
   clear HF HR HB HN HI hr;have HLe:=A6 (qO k);generalize Ly k=m at*;go_wp2_with fail
   refine(HLe.out _).mono ?_
   rintro e w' ⟨rfl,rfl⟩;by_cases hlt:cc<m
   ·have HA:=A6 (HX.out cc hr0.out (.inl hlt))
    clear HX HG hr0;exact I28
   ·by_cases hsc:El cc
    ·have HA:=A6 (HG.out cc hr0.out (fun hh=>hh.elim hlt (fun h=>h hsc)))
     have HS:=A6 (Xg cc);rw[decide_eq_true hsc]at HS;exact I120
    ·have HA:=A6 (HX.out cc hr0.out (.inr hsc))
     have HS:=A6 (Xg cc);rw[decide_eq_false hsc]at HS;exact I120
theorem Mw (s:ByteArray)(w:World):Calls Tryz.prog 38 #[.string s] w fun e w'=>e=.returned (.tuple #[.int .i64 (Ex (Ao s)),.int .i64 (Eu (Ao s)),.int .i64 (Eg (Ao s))])∧w=w':=by
 by_cases h0:(Ao s).length=0
 ·exact vS w s h0
 by_cases h1:Dz (gN (Ao s) 0)=0
 ·exact rG w s h0 h1
 ·exact rF w s h0 h1
end
