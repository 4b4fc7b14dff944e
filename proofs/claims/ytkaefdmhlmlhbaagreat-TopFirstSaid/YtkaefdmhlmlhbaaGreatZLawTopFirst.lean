/-
  The law is proved.
-/
import Derived.Test.YtkaefdmhlmlhbaaGreatZOpenS
import Derived.Test.YtkaefdmhlmlhbaaGreatZOpenC
import Derived.Test.YtkaefdmhlmlhbaaGreatZVkR
set_option maxRecDepth 100000
set_option maxHeartbeats 16000000
set_option linter.unusedVariables false
set_option linter.unusedSimpArgs false
namespace Go.Proofs.YtkaefdmhlmlhbaaGreat.lawTopFirst
open _root_.Go.Proofs.Tryz
open Go.ChangeShapes Go.WideShapes Go.ChangeAt Go.RowKit
open Go.ChangeMaps (open_string)
theorem lifted (os:Os)(started:os.Started)(H:Type)(enc:TypeId×Value→H):
 ReturnsInHanded {} checked os 7 .any (Rows.topFirstSpec.pre6 enc prog f7 Rows.topFirstRow.domain false) (Rows.topFirstSpec.post enc prog f7 false true false false):=by
 refine returnsInHanded_of_change_sized (C:=checked) uE started (by kernel_rfl) func7
  (ChangeSpec.witness6 (enc:=enc) (C:=checked) false ⟨#[],#[.int .i64 0,.slice none 0 0,.slice none 0 0,.slice none 0 0],[]⟩ 8 (by kernel_rfl) (by kernel_rfl) (by kernel_rfl) (by kernel_rfl)) ?_
 intro W base args ds gs before DS hW hcnd dl _;have uq:∀(j:Nat) t v,f7.params[j]? = some t→args[j]? = some v→Value.okWide prog W .any base t v:=DS;have WC:=hW;obtain⟨p,q,hA0,hV,rfl,hfz,hnd⟩:=hW;have hA:DataW.TrodAll enc prog W 0 (fun _=>true) true f7.params.toList args.toList ds p:=hA0
 rw[params7]at hA uq;obtain⟨v0,vs0,d0,ds0,p0,q0,xx,rfl,rfl,h0,r0⟩:=trodAll_cons hA;obtain⟨v1,vs1,d1,ds1,p1,q1,rfl,rfl,rfl,h1,r1⟩:=trodAll_cons r0;obtain⟨v2,vs2,d2,ds2,p2,q2,rfl,rfl,rfl,h2,r2⟩:=trodAll_cons r1;obtain⟨v3,vs3,d3,ds3,p3,q3,rfl,rfl,rfl,h3,r3⟩:=trodAll_cons r2;obtain⟨rfl,rfl,rfl⟩:=trodAll_nil r3;obtain rfl:args=#[v0,v1,v2,v3]:=by cases args;simp_all
 obtain⟨a0,rfl,e0,_,w0⟩:=open_int underlying3 (uq 0 3 v0 rfl rfl) h0;obtain⟨A1,n1,c1,a1,rfl,i1,w1,e1,y1⟩:=eS underlying25 underlying3 pV (uq 1 25 v1 rfl rfl) h1;obtain⟨A2,n2,c2,l2,rfl,i2⟩:=J8b (uq 2 71 v2 rfl rfl) h2;obtain⟨A3,n3,c3,a3,rfl,i3,w3,e3,y3⟩:=eS underlying25 underlying3 pV (uq 3 25 v3 rfl rfl) h3;obtain⟨rfl,rfl⟩:=trodVars_none hV;clear hA0 DS;have z1:=gW (j:=1) dl rfl rfl underlying25 (by kernel_rfl) (Bj.len i1) e1
 have z3:=gW (j:=3) dl rfl rfl underlying25 (by kernel_rfl) (Bj.len i3) e3
 refine(J7p i1 (by omega) i2 i3 (by omega)).mono fun e W' ⟨he,hg⟩=>?_
 subst he;exact⟨_,rfl,nR uX (by kernel_rfl) underlying4 rfl WC rfl rfl hg⟩
theorem over:Rows.topFirstRow.holds Tryz.pinned (OpenSpec.ofChange Rows.topFirstSpec):=
 OpenClaim.holds_of_wide 7 f7 rfl rfl rfl rfl rfl rfl rfl ⟨rfl,rfl,rfl,rfl,rfl⟩ rfl rfl rfl rfl rfl (by kernel_rfl) func7 (by kernel_rfl)
  (of_decide_eq_true (by kernel_rfl)) (by unfold Func.isWrapper;first|(rw[if_pos (by decide +kernel)];kernel_rfl)|(rw[if_neg (by decide +kernel)];exact⟨rfl,rfl⟩))
  (fun os started H enc _=>lifted os started H enc)
theorem proved:Rows.TopFirstSaid:=
 over
end Go.Proofs.YtkaefdmhlmlhbaaGreat.lawTopFirst
