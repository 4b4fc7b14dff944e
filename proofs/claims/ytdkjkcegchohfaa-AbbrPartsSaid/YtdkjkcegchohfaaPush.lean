/-
  append of one new element to a row of the call's own, as one step of a region that draws its order.
-/
import Derived.Test.YtdkjkcegchohfaaBase
namespace Go.Proofs.Ytdkjkcegchohfaa
open Go.RowKit
set_option linter.unusedVariables false
set_option linter.unusedSimpArgs false

/-- 'append(own row, one new element)', in a region that draws its order. -/
theorem step_put {P : Program} {ops : Array Oper} {o : Oper} {a : Act} {K : Act → World → Prop} {Q : Exit → Act → World → Prop} {E : Prop} {w1 : World} (hgd : o.guard = none) (s x : Operand) (t : TypeId)
    (ho : o.op = .call { callee := .builtin .append, args := #[s, x], argTypes := #[t, t] })
    (w0 : World) (base e : Nat) (i : TypeInfo) (zv : Value) (z bytes : Nat) (ht : P.underlying t = some (.slice e)) (hi : P.info? e = some i) (hz : i.zero = some zv)
    (hsize : i.size = z) (hby : i.bytes = bytes) (hzs : zv.cells.size = z) (hsz : 0 < z)
    (A : Option Addr) (n c : Nat) (xs : List Value) (hs : a.eval s = .slice A n c) (hown : Own w1 base e z A n c xs)
    (us : Array Value) (hu : us.size = z) (h1 : ∀ u ∈ us.toList, u.oneCell' = true) (hx : a.eval x = .slice (some ⟨w1.heap.size, 0, none⟩) 1 1)
    (h63 : n + 1 ≤ maxLen) (hbytes : (n + 1) * bytes ≤ 140737488355328) (he : Ext w0 w1) (hb : w0.heap.size ≤ base) (hbase : base ≤ w1.heap.size)
    (h : ∀ A' c' w', Own w' base e z A' (n + 1) c' (xs ++ us.toList) → w1.grownBy w' (Value.slice A n c).ownBlock → ((Value.slice A' (n + 1) c').ownBlock = (Value.slice A n c).ownBlock ∨ ∃ g, w1.heap.size ≤ g ∧ (Value.slice A' (n + 1) c').ownBlock = some g) → Ext w0 w' →
      K (a.put o.dst (.slice A' (n + 1) c')) w') : if Region.wanted o (yielded ops a.tmps) = true then Oper.wp P o a (w1.alloc (.cells us e)) K Q else E := by
  have hw : Region.wanted o (yielded ops a.tmps) = true := by simp [Region.wanted, hgd]
  rw [if_pos hw]
  have key : wpList P #[] Q [o] a (w1.alloc (.cells us e)) = wpList P #[] Q [o] a (w1.alloc (.cells us e)) := rfl
  clear key
  have hr : Rd (w1.alloc (.cells us e)) z (some ⟨w1.heap.size, 0, none⟩) 1 1 us.toList := by
    refine ⟨by simpa using hu, Nat.le_refl _, by unfold maxLen; omega, fun _ => ⟨_, rfl, fun j u hj => ?_⟩⟩
    have e1 : (⟨w1.heap.size, 0, none⟩ : Addr).add j = ⟨w1.heap.size, j, none⟩ := by simp [Addr.add_lit]
    rw [e1, (Blk.new w1 e us).cell j]
    simpa using hj
  have hc : ∀ j u, us.toList[j]? = some u → (w1.alloc (.cells us e)).cell? ((⟨w1.heap.size, 0, none⟩ : Addr).add j) = some u := by
    obtain ⟨ad', e1, hc⟩ := hr.at_ (k := 0) (by omega)
    injection e1 with e1
    subst e1
    exact hc
  have hown' := hown.ext (Ext.alloc w1 (.cells us e))
  obtain ⟨v', w', hrun, h2, h3, _, h5⟩ := run_append_own_at (P := P) (w1.alloc (.cells us e)) base t o.type e i zv z bytes ht hi hz hsize hby hzs hsz (.slice A n c) n xs hown' ⟨w1.heap.size, 0, none⟩ 1 1 us.toList hr.len hc h1 h63 hbytes (Nat.le_trans hbase (Ext.alloc w1 (.cells us e)).hsize)
  have hv : ∃ A' c', v' = .slice A' (n + 1) c' := by
    rcases h2.2 with ⟨rfl, h0'⟩ | ⟨g, cap, cur, rfl, _⟩
    · exact ⟨none, 0, by rw [h0']⟩
    · exact ⟨_, _, rfl⟩
  obtain ⟨A', c', rfl⟩ := hv
  unfold Oper.wp execOp
  simp only [ho, resolve, invoke, builtin, Sem.run_bind, Sem.run_pure, Result.andThen_ok, List.map_toArray, List.map_cons, List.map_nil, hs, hx, hrun]
  refine h A' c' w' h2 ⟨h3.os, h3.tape, h3.output, Nat.le_trans (Ext.alloc _ _).hsize h3.size, fun k hk hne => (h3.block k (Nat.lt_of_lt_of_le hk (Ext.alloc _ _).hsize) hne).trans (Below.heap_alloc _ _ _ hk)⟩ ?_ (Ext.grown (he.to_alloc _) h3 hown' hb)
  rcases h5 with k3 | k3
  · exact .inl k3
  · exact .inr ⟨_, (Ext.alloc _ _).hsize, k3⟩

/-- A call of a Go function by its contract, in a region that draws its order; the operation must be a call of this very function. -/
theorem step_callf {P : Program} {ops : Array Oper} {o : Oper} {a : Act} {w : World} {K : Act → World → Prop} {Q : Exit → Act → World → Prop} {E : Prop} {ars : Array Operand} {tys : Array TypeId} (hgd : o.guard = none)
    (f : FuncId) (args : Array Value) (ho : o.op = .call { callee := .value (.func f), args := ars, argTypes := tys }) (hrun : (execOp a.eval o).run P w = .ok (.enter f args) w) (R : Value → World → Prop)
    (hc : Calls P f args w fun e w' => ∃ v, e = .returned v ∧ R v w') (h : ∀ v w', R v w' → K (a.put o.dst v) w') : if Region.wanted o (yielded ops a.tmps) = true then Oper.wp P o a w K Q else E := by
  have hw : Region.wanted o (yielded ops a.tmps) = true := by simp [Region.wanted, hgd]
  rw [if_pos hw]
  unfold Oper.wp
  rw [hrun, Oper.upon_enter]
  refine hc.mono fun e w' hh => ?_
  obtain ⟨v, rfl, hR⟩ := hh
  exact h v w' hR
end Go.Proofs.Ytdkjkcegchohfaa
