/-
  Part ZTk.
-/
import Derived.Test.YtiahhfglhlgfiaaGreatZBase
import Derived.Deep.RegionHeld
set_option maxRecDepth 100000
set_option maxHeartbeats 16000000
set_option linter.unusedVariables false
set_option linter.unusedSimpArgs false
namespace Go.Proofs.YtiahhfglhlgfiaaGreat
open Go.RowKit
section
variable {P:Program} {ops:Array Oper} {Q:Exit→Act→World→Prop} {md:Region.Mode} {S:World→Prop}
theorem F4 {i:Nat}{oi:Oper}{v:Value}{fuel:Nat}{listed listed':Array Bool}{a a':Act}{w:World}(hi:ops[i]? = some oi)(hy:∀w',S w'→(execOp a.eval oi).run P w'=.ok (.value v) w')(hS:S w)
 (h:wpAnyH P md ops Q S fuel listed' a' w) (hs:Region.noSelect ops=true:=by kernel_rfl) (hf:Region.free md ops listed i=true:=by kernel_rfl) (hr:(Region.ready md ops listed).contains i=true:=by kernel_rfl)
 (hQ:∀c a w,Q (.panic c) (a.put oi.dst v) w→Q (.panic c) a w:=by exact fun _ _ _ h=>h) (hw:Region.wanted oi (yielded ops a.tmps)=true:=by rfl)
 (ha:a.put oi.dst v=a':=by((try simp only[List.getElem_toArray,List.getElem_cons_zero,List.getElem_cons_succ,Act.put,List.setIfInBounds_toArray,List.set_cons_zero,List.set_cons_succ]);rfl))
 (hl:listed.setIfInBounds i true=listed':=by((try simp only[List.getElem_toArray,List.getElem_cons_zero,List.getElem_cons_succ,Act.put,List.setIfInBounds_toArray,List.set_cons_zero,List.set_cons_succ]);rfl)):
 wpAnyH P md ops Q S (fuel+1) listed a w:=by
 subst ha hl;exact wpAnyH_take hi hs hf hr hQ (Or.inl ⟨hw,hy⟩) hS h
theorem B8 {i:Nat}{oi:Oper}{v:Value}{fuel:Nat}{listed listed':Array Bool}{a a':Act}{w:World}(hi:ops[i]? = some oi)(hS:S w)
 (h:wpAnyH P md ops Q S fuel listed' a' w) (hy:∀w',S w'→(execOp a.eval oi).run P w'=.ok (.value v) w':=by(intro w' hSw;go_simp)) (hs:Region.noSelect ops=true:=by kernel_rfl) (hf:Region.free md ops listed i=true:=by kernel_rfl) (hr:(Region.ready md ops listed).contains i=true:=by kernel_rfl)
 (hQ:∀c a w,Q (.panic c) (a.put oi.dst v) w→Q (.panic c) a w:=by exact fun _ _ _ h=>h) (hw:Region.wanted oi (yielded ops a.tmps)=true:=by rfl)
 (ha:a.put oi.dst v=a':=by((try simp only[List.getElem_toArray,List.getElem_cons_zero,List.getElem_cons_succ,Act.put,List.setIfInBounds_toArray,List.set_cons_zero,List.set_cons_succ]);rfl))
 (hl:listed.setIfInBounds i true=listed':=by((try simp only[List.getElem_toArray,List.getElem_cons_zero,List.getElem_cons_succ,Act.put,List.setIfInBounds_toArray,List.set_cons_zero,List.set_cons_succ]);rfl)):
 wpAnyH P md ops Q S (fuel+1) listed a w:=F4 hi hy hS h hs hf hr hQ hw ha hl
theorem Bo {i:Nat}{oi:Oper}{v:Value}{fuel:Nat}{listed listed':Array Bool}{a a':Act}{w:World}(hi:ops[i]? = some oi)(hS:S w)
 (h:wpAnyH P md ops Q S fuel listed' a' w) (hy:∀w',S w'→(execOp a.eval oi).run P w'=.ok (.value v) w':=by(intro w' hSw;obtain⟨s0,hSw⟩:=hSw;(try obtain⟨s1,hSw⟩:=hSw);(try obtain⟨s2,hSw⟩:=hSw);(try obtain⟨s3,hSw⟩:=hSw);go_simp)) (hs:Region.noSelect ops=true:=by kernel_rfl) (hf:Region.free md ops listed i=true:=by kernel_rfl) (hr:(Region.ready md ops listed).contains i=true:=by kernel_rfl)
 (hQ:∀c a w,Q (.panic c) (a.put oi.dst v) w→Q (.panic c) a w:=by exact fun _ _ _ h=>h) (hw:Region.wanted oi (yielded ops a.tmps)=true:=by rfl)
 (ha:a.put oi.dst v=a':=by((try simp only[List.getElem_toArray,List.getElem_cons_zero,List.getElem_cons_succ,Act.put,List.setIfInBounds_toArray,List.set_cons_zero,List.set_cons_succ]);rfl))
 (hl:listed.setIfInBounds i true=listed':=by((try simp only[List.getElem_toArray,List.getElem_cons_zero,List.getElem_cons_succ,Act.put,List.setIfInBounds_toArray,List.set_cons_zero,List.set_cons_succ]);rfl)):
 wpAnyH P md ops Q S (fuel+1) listed a w:=F4 hi hy hS h hs hf hr hQ hw ha hl
end
