/-
  The law is proved.
-/
import Derived.Test.YtkaefdmhlmlhbaaGreatZShell
import Derived.Test.YtkaefdmhlmlhbaaGreatZVjT
set_option maxRecDepth 100000
set_option maxHeartbeats 16000000
set_option linter.unusedVariables false
set_option linter.unusedSimpArgs false
namespace Go.Proofs.YtkaefdmhlmlhbaaGreat.lawTopCuts
open Go.ChangeShapes Go.WideShapes Go.ChangeAt Go.RowKit
open Go.ChangeMaps (open_string)
theorem lifted (os:Os)(started:os.Started)(H:Type)(enc:TypeId×Value→H):
 ReturnsInHanded {} Tryz.checked os 3 .any (Rows.topCutsSpec.pre6 enc Tryz.prog Tryz.f3 Rows.topCutsRow.domain false) (Rows.topCutsSpec.post enc Tryz.prog Tryz.f3 false true false false):=by
 refine returnsInHanded_of_change_sized (C:=Tryz.checked) Q2m started (by kernel_rfl) Tryz.func3
  (ChangeSpec.witness6 (enc:=enc) (C:=Tryz.checked) false ⟨#[],#[.int .i64 0,.int .i64 0,.string .empty,.string .empty,.string .empty],[]⟩ 8 (by kernel_rfl) (by kernel_rfl) (by kernel_rfl) (by kernel_rfl)) ?_
 intro W base args ds gs before hval0 hW hcnd hsz _;have hval:∀(j:Nat) t v,Tryz.f3.params[j]? = some t→args[j]? = some v→Value.okWide Tryz.prog W .any base t v:=hval0;have hW':=hW;obtain⟨p,q,hA0,hV,rfl,hfz,hnd⟩:=hW;have hA:DataW.TrodAll enc Tryz.prog W 0 (fun _=>true) true Tryz.f3.params.toList args.toList ds p:=hA0
 rw[Tryz.params3]at hA hval;obtain⟨v0,vs0,d0,ds0,p0,q0,hargs,rfl,rfl,h0,r0⟩:=trodAll_cons hA;obtain⟨v1,vs1,d1,ds1,p1,q1,rfl,rfl,rfl,h1,r1⟩:=trodAll_cons r0;obtain⟨v2,vs2,d2,ds2,p2,q2,rfl,rfl,rfl,h2,r2⟩:=trodAll_cons r1;obtain⟨v3,vs3,d3,ds3,p3,q3,rfl,rfl,rfl,h3,r3⟩:=trodAll_cons r2;obtain⟨v4,vs4,d4,ds4,p4,q4,rfl,rfl,rfl,h4,r4⟩:=trodAll_cons r3;obtain⟨rfl,rfl,rfl⟩:=trodAll_nil r4;obtain rfl:args=#[v0,v1,v2,v3,v4]:=by cases args;simp_all
 obtain⟨a0,rfl,e0,_,w0⟩:=open_int Tryz.underlying3 (hval 0 3 v0 rfl rfl) h0;obtain⟨a1,rfl,e1,_,w1⟩:=open_int Tryz.underlying3 (hval 1 3 v1 rfl rfl) h1;obtain⟨a2,rfl,e2,_,w2⟩:=open_string Tryz.underlying9 (hval 2 9 v2 rfl rfl) h2;obtain⟨a3,rfl,e3,_,w3⟩:=open_string Tryz.underlying9 (hval 3 9 v3 rfl rfl) h3;obtain⟨a4,rfl,e4,_,w4⟩:=open_string Tryz.underlying9 (hval 4 9 v4 rfl rfl) h4;obtain⟨rfl,rfl⟩:=trodVars_none hV;clear hA0 hval0;refine(Yg (by have z9:=sized_string hsz (j:=2) rfl (by rw[e2];rfl);rw[Rw]at z9;simpa using z9) (by have z9:=sized_string hsz (j:=3) rfl (by rw[e3];rfl);rw[Rw]at z9;simpa using z9) (by have z9:=sized_string hsz (j:=4) rfl (by rw[e4];rfl);rw[Rw]at z9;simpa using z9)).mono fun e W' ⟨he,hg⟩=>?_
 subst he;exact⟨_,rfl,J7n Q3e (by kernel_rfl) Tryz.underlying4 rfl hW' rfl rfl hg⟩
theorem over:Rows.topCutsRow.holds Tryz.pinned (OpenSpec.ofChange Rows.topCutsSpec):=
 OpenClaim.holds_of_wide 3 Tryz.f3 rfl rfl rfl rfl rfl rfl rfl ⟨rfl,rfl,rfl,rfl,rfl⟩ rfl rfl rfl rfl rfl (by kernel_rfl) Tryz.func3 (by kernel_rfl)
  (of_decide_eq_true (by kernel_rfl)) (by unfold Func.isWrapper;first|(rw[if_pos (by decide +kernel)];kernel_rfl)|(rw[if_neg (by decide +kernel)];exact⟨rfl,rfl⟩))
  (fun os started H enc _=>lifted os started H enc)
theorem proved:Rows.TopCutsSaid:=
 over
end Go.Proofs.YtkaefdmhlmlhbaaGreat.lawTopCuts
