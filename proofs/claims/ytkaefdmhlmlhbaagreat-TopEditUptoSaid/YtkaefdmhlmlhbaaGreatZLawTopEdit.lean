/-
  The law is proved.
-/
import Derived.Test.YtkaefdmhlmlhbaaGreatZOpenS
import Derived.Test.YtkaefdmhlmlhbaaGreatZVjQ
set_option maxRecDepth 100000
set_option maxHeartbeats 16000000
set_option linter.unusedVariables false
set_option linter.unusedSimpArgs false
namespace Go.Proofs.YtkaefdmhlmlhbaaGreat.lawTopEdit
open Go.ChangeShapes Go.WideShapes Go.ChangeAt Go.RowKit
open Go.ChangeMaps (open_string)
theorem lifted (os:Os)(started:os.Started)(H:Type)(enc:TypeId×Value→H)(F:Stop.Interp):
 ReturnsInHanded {} Tryz.checked os 8 .any ((Rows.OpenSpec.upto Rows.topEditSpec).pre6 enc Tryz.prog Tryz.f8 Rows.topEditUptoRow.domain false) (((Rows.OpenSpec.upto Rows.topEditSpec).at F).post enc Tryz.prog Tryz.f8 false true false false):=by
 refine returnsInHanded_of_cond (C:=Tryz.checked) (s:=Rows.OpenSpec.upto Rows.topEditSpec) (k:=Rows.uptoSmall) rfl pX started (by kernel_rfl) Tryz.func8
  (OpenSpec.witness (enc:=enc) (C:=Tryz.checked) (s:=Rows.OpenSpec.upto Rows.topEditSpec) (k:=Rows.uptoSmall) rfl false ⟨#[],#[.int .i64 0,.string .empty,.agg #[.int .i64 0,.int .i64 0,.int .i64 0,.int .i64 0,.int .i64 0]],[]⟩ 8 (by kernel_rfl) (by kernel_rfl) (by kernel_rfl)
   (x:=([.lit (.int .i64 0),.lit (.string []),.agg [.lit (.int .i64 0),.lit (.int .i64 0),.lit (.int .i64 0),.lit (.int .i64 0),.lit (.int .i64 0)]],[],[])) (by kernel_rfl) rfl (by kernel_rfl)) ?_
 intro W base args ds gs before hval0 hW _ hk0 _;have hval:∀(j:Nat) t v,Tryz.f8.params[j]? = some t→args[j]? = some v→Value.okWide Tryz.prog W .any base t v:=hval0;have hW':=hW;obtain⟨p,q,hA0,hV,rfl,hfz,hnd⟩:=hW;have hA:DataW.TrodAll enc Tryz.prog W 0 (fun _=>true) true Tryz.f8.params.toList args.toList ds p:=hA0
 rw[Tryz.params8]at hA hval;obtain⟨v0,vs0,d0,ds0,p0,q0,hargs,rfl,rfl,h0,r0⟩:=trodAll_cons hA;obtain⟨v1,vs1,d1,ds1,p1,q1,rfl,rfl,rfl,h1,r1⟩:=trodAll_cons r0;obtain⟨v2,vs2,d2,ds2,p2,q2,rfl,rfl,rfl,h2,r2⟩:=trodAll_cons r1;obtain⟨rfl,rfl,rfl⟩:=trodAll_nil r2;obtain rfl:args=#[v0,v1,v2]:=by cases args;simp_all
 obtain⟨a0,rfl,e0,_,w0⟩:=open_int Tryz.underlying3 (hval 0 3 v0 rfl rfl) h0;obtain⟨a1,rfl,e1,_,w1⟩:=open_string Tryz.underlying9 (hval 1 9 v1 rfl rfl) h1;obtain⟨zs2,rfl,zl2,zw2⟩:=T5 Tryz.underlying62 (by kernel_rfl) (by kernel_rfl) (hval 2 62 v2 rfl rfl) h2
 obtain⟨a2_0,a2_1,a2_2,a2_3,a2_4,rfl⟩:=lD zs2 zl2;obtain⟨rfl,rfl⟩:=trodVars_none hV;clear hA0 hval0;have hk:Rows.uptoBulkAll [d0,d1,d2]≤1048576:=by simpa[Rows.uptoSmall]using hk0
 simp only[Rows.uptoBulkAll]at hk;have b1:=Tq e1;refine(Z6 (by have z9:=Tq e1;omega)).mono fun e W' ⟨he,hg⟩=>?_
 subst he;exact⟨_,rfl,kM qR (by kernel_rfl) Tryz.underlying4 rfl hW' rfl rfl hg⟩
theorem over:Rows.topEditUptoRow.holds Tryz.pinned (Rows.OpenSpec.upto Rows.topEditSpec):=
 OpenClaim.holds_of_cond 8 Tryz.f8 rfl rfl rfl rfl rfl rfl rfl ⟨rfl,rfl,rfl,rfl,rfl⟩ rfl rfl rfl rfl rfl (by kernel_rfl) Tryz.func8 (by kernel_rfl)
  (of_decide_eq_true (by kernel_rfl)) (by unfold Func.isWrapper;first|(rw[if_pos (by decide +kernel)];kernel_rfl)|(rw[if_neg (by decide +kernel)];exact⟨rfl,rfl⟩))
  (fun os started H enc _ F=>lifted os started H enc F)
theorem proved:Rows.TopEditUptoSaid:=
 over
end Go.Proofs.YtkaefdmhlmlhbaaGreat.lawTopEdit
