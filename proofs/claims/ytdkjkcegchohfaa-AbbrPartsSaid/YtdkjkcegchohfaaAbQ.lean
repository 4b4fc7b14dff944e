/-
  A step of the machine.
-/
import Derived.Test.YtdkjkcegchohfaaAbP
namespace Go.Proofs.Ytdkjkcegchohfaa
open Go.RowKit Go.Maps
set_option linter.unusedVariables false
set_option linter.unusedSimpArgs false
attribute [local go_sem] Oper.semAt_some

theorem MapO.got {w : World} {b n : Nat} {f : Int → Option Value} (h : MapO w b n f) {z : Value} {t e : Nat} (ht : Try.prog.underlying t = some (.map 3 e)) (hz : (zeroValue e).run Try.prog w = .ok z w) {k : Int} (hk : (Lit.int .i64 k).wf = true) :
    (Instr.lookup t (.map (some b)) (.int .i64 k) true).run Try.prog w = .ok (.tuple #[(f k).getD z, .bool (f k).isSome]) w := by
  obtain ⟨D, h1, h2⟩ := h
  obtain ⟨v, ps, hrun, hv⟩ := h1.look_ok key_intV ht hz (show itself z = some (.held z, []) from rfl) (keyOf_int_mk Try.underlying3 hk)
  rw [h2.has hk] at hrun
  rw [h2.2 k hk] at hv
  rw [hrun]
  cases e : f k with
  | none => rw [e] at hv; simp only [itself, Option.some.injEq, Prod.mk.injEq, DataW.held.injEq] at hv; rw [hv.1]; rfl
  | some u => rw [e] at hv; simp only [itself, Option.some.injEq, Prod.mk.injEq, DataW.held.injEq] at hv; rw [hv.1]; rfl
/-- 'v, ok := m[k]'. -/
theorem wpList_got_o (w : World) {ops : Array Oper} {rest : List Oper} {o : Oper} {a : Act} {Q : Exit → Act → World → Prop} (hg : o.guard = none) (m x : Operand) (t e : TypeId) (hop : o.op = Op.lookup t m x true)
    (ht : Try.prog.underlying t = some (.map 3 e)) {b n : Nat} {f : Int → Option Value} (hm : a.eval m = .map (some b)) (h : MapO w b n f) (k : Int) (z : Value) (hx : a.eval x = .int .i64 k) (hk : (Lit.int .i64 k).wf = true) (hz : (zeroValue e).run Try.prog w = .ok z w)
    (v : Value) (ok : Bool) (hv : (f k).getD z = v) (hok : (f k).isSome = ok)
    (hK : wpList Try.prog ops Q rest (a.put o.dst (.tuple #[v, .bool ok])) w) :
    wpList Try.prog ops Q (o :: rest) a w := by
  refine wpList_plain hg fun K' hK' => ?_
  have hrun := h.got ht hz hk
  rw [hv, hok] at hrun
  unfold Oper.wp
  simp [execOp, hop, hm, hx, hrun, Result.andThen]
  exact hK' _ _ hK
theorem zero_intO (w : World) : (zeroValue 3).run Try.prog w = .ok (.int .i64 0) w := by kernel_rfl

section
variable {w : World} {b0 K : Nat} {t : AC} {sz : List Int} {x : AbA}
theorem AbIs.c0 (h : AbIs w b0 K t sz x) : w.cell? ⟨x.g, 0, none⟩ = some (.slice (some ⟨x.r, 0, none⟩) t.N x.c) := by rw [h.blk.cell 0]; rfl
theorem AbIs.c1 (h : AbIs w b0 K t sz x) : w.cell? ⟨x.g, 1, none⟩ = some (.slice x.S x.Sn x.Sc) := by rw [h.blk.cell 1]; rfl
theorem AbIs.nm (h : AbIs w b0 K t sz x) {i : Nat} (hi : i < t.N) : w.cell? ⟨x.r, i * 3, none⟩ = some (.map (some (x.ns i).m)) := by
  rw [World.ownsRow.cellAt h.row (i * 3) (by omega)]; exact (nodeC_at hi).1
theorem AbIs.nf (h : AbIs w b0 K t sz x) {i : Nat} (hi : i < t.N) : w.cell? ⟨x.r, i * 3 + 1, none⟩ = some (.int .i64 (x.fall i)) := by
  rw [World.ownsRow.cellAt h.row (i * 3 + 1) (by omega)]; exact (nodeC_at hi).2.1
theorem AbIs.ne (h : AbIs w b0 K t sz x) {i : Nat} (hi : i < t.N) : w.cell? ⟨x.r, i * 3 + 2, none⟩ = some (.slice (x.ns i).E (x.ns i).n (x.ns i).c) := by
  rw [World.ownsRow.cellAt h.row (i * 3 + 2) (by omega)]; exact (nodeC_at hi).2.2
end
/-- The falls are right up to some depth. -/
def FallsTo (t : AC) (fall : Nat → Nat) (n : Nat) : Prop := ∀ i, i < t.N → i ≠ 0 → (t.str i).length ≤ n → FallAt t fall i

set_option maxRecDepth 20000 in
set_option maxHeartbeats 1000000 in
theorem abStep_ok {w : World} {b0 K : Nat} {t : AC} {ws : List (List Int)} {sz : List Int} {x : AbA} {i : Nat} {c : Int} (ho : t.Ok ws) (h : AbIs w b0 K t sz x) (hi : i < t.N) (hf : FallsTo t x.fall (t.str i).length) (hc : (Lit.int .i64 c).wf = true) :
    Calls Try.prog 16 #[.pointer (some ⟨x.g, 0, none⟩), .int .i64 i, .int .i64 c] w fun e w' => w' = w ∧ ∃ j : Nat, e = .returned (.int .i64 j) ∧ StepTo t i c j := by
  have c0 := h.c0
  have hmax := h.max
  have H := Lib.hid h
  have HO := Lib.hid ho
  have HF := Lib.hid hf
  clear h ho hf
  go_enter Try.func16, Try.ntmps16
  have hge : decide (t.N ≤ i) = false := by simp; exact hi
  go_wp2_with fail
  go_loopw [1] (fun v wr => ∃ k : Nat, k < t.N ∧ v = .int .i64 k ∧ wr = w ∧ Hid ((t.str k).length ≤ (t.str i).length ∧ ∀ j, StepTo t k c j → StepTo t i c j)) (fun v _ => (t.str (intOf v).toNat).length)
  case atStart => exact ⟨i, hi, rfl, rfl, Lib.hid ⟨Nat.le_refl _, fun j hj => hj⟩⟩
  case round =>
    obtain ⟨k, hk, rfl, rfl, HK⟩ := hrel
    have hm := H.out.nm hk
    have hfl := H.out.nf hk
    have hmap := H.out.map k hk
    cases hn : t.nx k c with
    | some j =>
      have hv : (nxF t k c).getD (.int .i64 0) = .int .i64 j := by unfold nxF; rw [hn]; rfl
      have hs : (nxF t k c).isSome = true := by unfold nxF; rw [hn]; rfl
      have HJ := Lib.hid (HK.out.2 j (step_hit HO.out hn))
      go_wp2_with (at_lookup; refine wpList_got_o _ rfl _ _ _ _ rfl Try.underlying70 rfl hmap c (.int .i64 0) rfl hc (zero_intO _) _ _ hv hs ?_)
      go_ret
      exact ⟨rfl, j, rfl, HJ.out⟩
    | none =>
      have hv : (nxF t k c).getD (.int .i64 0) = .int .i64 0 := by unfold nxF; rw [hn]; rfl
      have hs : (nxF t k c).isSome = false := by unfold nxF; rw [hn]; rfl
      by_cases hk0 : k = 0
      · subst hk0
        have HJ := Lib.hid (HK.out.2 0 (step_zero HO.out hn))
        go_wp2_with (at_lookup; refine wpList_got_o _ rfl _ _ _ _ rfl Try.underlying70 rfl hmap c (.int .i64 0) rfl hc (zero_intO _) _ _ hv hs ?_)
        go_ret
        exact ⟨rfl, 0, rfl, HJ.out⟩
      · have HA := Lib.hid (HF.out k hk hk0 HK.out.1)
        go_wp2_with (at_lookup; refine wpList_got_o _ rfl _ _ _ _ rfl Try.underlying70 rfl hmap c (.int .i64 0) rfl hc (zero_intO _) _ _ hv hs ?_)
        go_roundw
        case rel =>
          refine ⟨x.fall k, HA.out.1, rfl, trivial, Lib.hid ⟨?_, fun j hj => HK.out.2 j (step_fall HO.out hk hk0 hn HA.out hj)⟩⟩
          have h1 := fall_less HO.out hk hk0 HA.out
          have h2 := HK.out.1
          omega
        case measure =>
          have := fall_less HO.out hk hk0 HA.out
          simpa [intOf] using this
end Go.Proofs.Ytdkjkcegchohfaa
