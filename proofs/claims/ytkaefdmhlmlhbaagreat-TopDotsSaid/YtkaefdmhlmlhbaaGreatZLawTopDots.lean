/-
  The law is proved.
-/
import Derived.Test.YtkaefdmhlmlhbaaGreatZOpenS
import Derived.Test.YtkaefdmhlmlhbaaGreatZVjQ
set_option maxRecDepth 100000
set_option linter.unusedVariables false
set_option linter.unusedSimpArgs false
namespace Go.Proofs.YtkaefdmhlmlhbaaGreat.lawTopDots
open _root_.Go.Proofs.Tryz
open Go.ChangeShapes Go.WideShapes Go.ChangeAt Go.RowKit
theorem lifted (os:Os)(started:os.Started)(H:Type)(enc:TypeId×Value→H):
 ReturnsInHanded {} checked os 6 .any (Rows.topDotsSpec.pre6 enc prog f6 Rows.topDotsRow.domain false) (Rows.topDotsSpec.post enc prog f6 false true false false):=by
 refine returnsInHanded_of_change_sized (C:=checked) uE started (by kernel_rfl) func6
  (ChangeSpec.witness6 (enc:=enc) (C:=checked) false ⟨#[],#[.int .i64 0,.string .empty,.agg #[(0:Int),(0:Int),(0:Int),(0:Int),(0:Int)],.slice none 0 0,.int .i64 0],[]⟩ 8 (by kernel_rfl) (by kernel_rfl) (by kernel_rfl) (by kernel_rfl)) ?_
 intro W base args ds gs before DS hW hcnd dl _;have uq:∀(j:Nat) t v,f6.params[j]? = some t→args[j]? = some v→Value.okWide prog W .any base t v:=DS;have WC:=hW;obtain⟨p,q,hA0,hV,rfl,hfz,hnd⟩:=hW;have hA:DataW.TrodAll enc prog W 0 (fun _=>true) true f6.params.toList args.toList ds p:=hA0
 rw[params6]at hA uq;obtain⟨v0,_,d0,_,_,_,_,rfl,rfl,h0,r0⟩:=trodAll_cons hA;obtain⟨v1,_,d1,_,_,_,rfl,rfl,rfl,h1,r1⟩:=trodAll_cons r0;obtain⟨v2,_,d2,_,_,_,rfl,rfl,rfl,h2,r2⟩:=trodAll_cons r1;obtain⟨v3,_,d3,_,_,_,rfl,rfl,rfl,h3,r3⟩:=trodAll_cons r2;obtain⟨v4,_,d4,_,_,_,rfl,rfl,rfl,h4,r4⟩:=trodAll_cons r3;obtain⟨rfl,rfl,rfl⟩:=trodAll_nil r4;obtain rfl:args=#[v0,v1,v2,v3,v4]:=by cases args;simp_all
 obtain⟨_,rfl,_,_,_⟩:=open_int underlying3 (uq 0 3 v0 rfl rfl) h0;obtain⟨_,rfl,_,_,_⟩:=Go.ChangeMaps.open_string underlying9 (uq 1 9 v1 rfl rfl) h1;obtain⟨zs2,rfl,zl2,zw2⟩:=Ub underlying62 (by kernel_rfl) (by kernel_rfl) (uq 2 62 v2 rfl rfl) h2
 obtain⟨_,_,_,_,_,rfl⟩:=oJ zs2 zl2;obtain⟨A3,n3,c3,a3,rfl,i3,w3,e3,y3⟩:=eS underlying25 underlying3 pV (uq 3 25 v3 rfl rfl) h3;obtain⟨_,rfl,_,_,_⟩:=open_int underlying3 (uq 4 3 v4 rfl rfl) h4;obtain⟨rfl,rfl⟩:=trodVars_none hV;clear hA0 DS;have z3:=gW (j:=3) dl rfl rfl underlying25 (by kernel_rfl) (Bj.len i3) e3
 refine(bD i3 (by omega)).mono fun e W' ⟨he,hg⟩=>?_
 subst he;exact⟨_,rfl,nR uX (by kernel_rfl) underlying4 rfl WC rfl rfl hg⟩
theorem proved:Rows.TopDotsSaid:=
 OpenClaim.holds_of_wide 6 f6 rfl rfl rfl rfl rfl rfl rfl ⟨rfl,rfl,rfl,rfl,rfl⟩ rfl rfl rfl rfl rfl (by kernel_rfl) func6 (by kernel_rfl)
  (of_decide_eq_true (by kernel_rfl)) (by unfold Func.isWrapper;rw[if_neg (by decide +kernel)];exact⟨rfl,rfl⟩)
  (fun os started H enc _=>lifted os started H enc)
end Go.Proofs.YtkaefdmhlmlhbaaGreat.lawTopDots
