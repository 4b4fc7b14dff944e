/-
  slices.SortStableFunc at []int, over what is sorted already: nothing turns.
-/
import Derived.Test.YtdkjkcegchohfaaLib
import Derived.Shelf.RegionOpen
import Derived.Deep.RegionHeld3
namespace Go.Proofs.Ytdkjkcegchohfaa
open Go.RowKit Go.Shelf
set_option linter.unusedVariables false
set_option linter.unusedSimpArgs false
attribute [local go_sem] Oper.semAt_some

/-- A call of a function value that lies in a slot, in a region that draws its order. -/
theorem step_callvT {P : Program} {ops : Array Oper} {o : Oper} {a : Act} {w : World} {K : Act → World → Prop} {Q : Exit → Act → World → Prop} {E : Prop} {ars : Array Operand} {tys : Array TypeId} (hw : Region.wanted o (yielded ops a.tmps) = true)
    (f : FuncId) (args : Array Value) (t : Tmp) (ho : o.op = .call { callee := .value (.tmp t), args := ars, argTypes := tys }) (hrun : (execOp a.eval o).run P w = .ok (.enter f args) w) (R : Value → World → Prop)
    (hc : Calls P f args w fun e w' => ∃ v, e = .returned v ∧ R v w') (h : ∀ v w', R v w' → K (a.put o.dst v) w') : if Region.wanted o (yielded ops a.tmps) = true then Oper.wp P o a w K Q else E := by
  rw [if_pos hw]
  unfold Oper.wp
  rw [hrun, Oper.upon_enter]
  refine hc.mono fun e w' hh => ?_
  obtain ⟨v, rfl, hR⟩ := hh
  exact h v w' hR
/-- The test tells that the list rises. -/
def CmpOn (w : World) (f g : Nat) (l : List Int) : Prop := ∀ W, Ext w W → ∀ i j, i < l.length → j < l.length → Calls Try.prog f #[.int .i64 (gI l i), .int .i64 (gI l j), .pointer (some ⟨g, 0, none⟩)] W fun e W' => ∃ v : Int, e = .returned (.int .i64 v) ∧ (i < j → v < 0) ∧ (j < i → 0 < v) ∧ Ext W W'
theorem CmpOn.ext {w w' : World} {f g : Nat} {l : List Int} (h : CmpOn w f g l) (he : Ext w w') : CmpOn w' f g l := fun W hW => h W (he.trans hW)

set_option maxRecDepth 20000 in
set_option maxHeartbeats 2000000 in
theorem insS_ok {A : Option Addr} {n c f g a b : Nat} {l : List Int} {w : World} (hl : Ints w A n c l) (hab : a ≤ b) (hb : b ≤ n) (hc : CmpOn w f g l) (eg : ∀ args W, (callFunc f args).run Try.prog W = .ok (.enter f args) W) (hn : n ≤ 100000) :
    Calls Try.prog 62 #[.slice A n c, .int .i64 a, .int .i64 b, .func (.func f) #[] #[.pointer (some ⟨g, 0, none⟩)]] w fun e w' => e = .returned (.tuple #[]) ∧ Ext w w' := by
  have HL := Lib.hid hl
  have hnl := hl.len
  have HC := Lib.hid hc
  have hnc := hl.ncap
  have hncm := hl.nmax
  unfold maxLen at hncm
  clear hl hc
  go_enter Try.func62, Try.ntmps62
  go_wp2_with fail
  go_loopw [8] (fun i wr => ∃ k : Nat, a + 1 ≤ k ∧ k ≤ n + 1 ∧ i = .int .i64 k ∧ Ext w wr) (fun i _ => n + 2 - (intOf i).toNat)
  case atStart => exact ⟨a + 1, by omega, by omega, by go_num, Ext.refl _⟩
  case round =>
    obtain ⟨k, hk1, hk2, rfl, he⟩ := hrel
    by_cases hlt : k < b
    · go_wp2_with fail
      generalize wr = w1 at *
      go_loopw [9] (fun i wr => i = .int .i64 k ∧ Ext w wr) (fun i _ => 0)
      case atStart => exact ⟨rfl, he⟩
      case round =>
        clear he
        obtain ⟨rfl, he⟩ := hrel
        obtain ⟨J, hJ⟩ : ∃ J, k = J + 1 := ⟨k - 1, by omega⟩
        have hJi : (k : Int) - 1 = (J : Int) := by omega
        have hJw : IntKind.i64.wrap (J : Int) = (J : Int) := by simp [IntKind.wrap, IntKind.bits, IntKind.signed]; omega
        obtain ⟨ad, rfl, hcc⟩ := HL.out.at_ (k := k) (by omega)
        have hkn : k < n := by omega
        have hJn : J < n := by omega
        have hka : a < k := by omega
        have HSS : Hid (wr.drew.cell? (ad.add k) = some (.int .i64 (gI l k)) ∧ wr.drew.cell? (ad.add J) = some (.int .i64 (gI l J))) := Lib.hid ⟨he.cell (hcc k (by omega)), he.cell (hcc J (by omega))⟩
        clear hcc hJ
        go_wp2_with fail
        refine wp_region_held_drew (S := fun w' => w'.cell? (ad.add k) = some (.int .i64 (gI l k)) ∧ w'.cell? (ad.add J) = some (.int .i64 (gI l J))) (by kernel_rfl) HSS.out (fun hHeld => ?_)
        refine wpAnyH_take (i := 0) (v := (.int .i64 k)) rfl (by kernel_rfl) (by kernel_rfl) (by kernel_rfl) (fun _ _ _ h => h) (Or.inl ⟨by rfl, by (intro w hSw; obtain ⟨q1, q2⟩ := hSw; go_simp)⟩) hHeld ?_
        try simp only [List.getElem_toArray, List.getElem_cons_zero, List.getElem_cons_succ, Act.put, List.setIfInBounds_toArray, List.set_cons_zero, List.set_cons_succ]
        refine wpAnyH_take (i := 1) (v := (.int .i64 a)) rfl (by kernel_rfl) (by kernel_rfl) (by kernel_rfl) (fun _ _ _ h => h) (Or.inl ⟨by rfl, by (intro w hSw; obtain ⟨q1, q2⟩ := hSw; go_simp)⟩) hHeld ?_
        try simp only [List.getElem_toArray, List.getElem_cons_zero, List.getElem_cons_succ, Act.put, List.setIfInBounds_toArray, List.set_cons_zero, List.set_cons_succ]
        refine wpAnyH_take (i := 2) (v := (.bool true)) rfl (by kernel_rfl) (by kernel_rfl) (by kernel_rfl) (fun _ _ _ h => h) (Or.inl ⟨by rfl, by (intro w hSw; obtain ⟨q1, q2⟩ := hSw; go_simp)⟩) hHeld ?_
        try simp only [List.getElem_toArray, List.getElem_cons_zero, List.getElem_cons_succ, Act.put, List.setIfInBounds_toArray, List.set_cons_zero, List.set_cons_succ]
        refine wpAnyH_take (i := 3) (v := (.bool true)) rfl (by kernel_rfl) (by kernel_rfl) (by kernel_rfl) (fun _ _ _ h => h) (Or.inl ⟨by rfl, by (intro w hSw; obtain ⟨q1, q2⟩ := hSw; go_simp)⟩) hHeld ?_
        try simp only [List.getElem_toArray, List.getElem_cons_zero, List.getElem_cons_succ, Act.put, List.setIfInBounds_toArray, List.set_cons_zero, List.set_cons_succ]
        refine wpAnyH_take (i := 4) (v := (.func (.func f) #[] #[.pointer (some ⟨g, 0, none⟩)])) rfl (by kernel_rfl) (by kernel_rfl) (by kernel_rfl) (fun _ _ _ h => h) (Or.inl ⟨by kernel_rfl, by (intro w hSw; obtain ⟨q1, q2⟩ := hSw; go_simp)⟩) hHeld ?_
        try simp only [List.getElem_toArray, List.getElem_cons_zero, List.getElem_cons_succ, Act.put, List.setIfInBounds_toArray, List.set_cons_zero, List.set_cons_succ]
        refine wpAnyH_take (i := 5) (v := (.slice (some ad) n c)) rfl (by kernel_rfl) (by kernel_rfl) (by kernel_rfl) (fun _ _ _ h => h) (Or.inl ⟨by kernel_rfl, by (intro w hSw; obtain ⟨q1, q2⟩ := hSw; go_simp)⟩) hHeld ?_
        try simp only [List.getElem_toArray, List.getElem_cons_zero, List.getElem_cons_succ, Act.put, List.setIfInBounds_toArray, List.set_cons_zero, List.set_cons_succ]
        refine wpAnyH_take (i := 6) (v := (.int .i64 k)) rfl (by kernel_rfl) (by kernel_rfl) (by kernel_rfl) (fun _ _ _ h => h) (Or.inl ⟨by kernel_rfl, by (intro w hSw; obtain ⟨q1, q2⟩ := hSw; go_simp)⟩) hHeld ?_
        try simp only [List.getElem_toArray, List.getElem_cons_zero, List.getElem_cons_succ, Act.put, List.setIfInBounds_toArray, List.set_cons_zero, List.set_cons_succ]
        refine wpAnyH_take (i := 7) (v := (.pointer (some (ad.add k)))) rfl (by kernel_rfl) (by kernel_rfl) (by kernel_rfl) (fun _ _ _ h => h) (Or.inl ⟨by kernel_rfl, by (intro w hSw; obtain ⟨q1, q2⟩ := hSw; go_simp)⟩) hHeld ?_
        try simp only [List.getElem_toArray, List.getElem_cons_zero, List.getElem_cons_succ, Act.put, List.setIfInBounds_toArray, List.set_cons_zero, List.set_cons_succ]
        refine wpAnyH_take (i := 8) (v := (.int .i64 (gI l k))) rfl (by kernel_rfl) (by kernel_rfl) (by kernel_rfl) (fun _ _ _ h => h) (Or.inl ⟨by kernel_rfl, by (intro w hSw; obtain ⟨q1, q2⟩ := hSw; go_simp)⟩) hHeld ?_
        try simp only [List.getElem_toArray, List.getElem_cons_zero, List.getElem_cons_succ, Act.put, List.setIfInBounds_toArray, List.set_cons_zero, List.set_cons_succ]
        refine wpAnyH_take (i := 9) (v := (.slice (some ad) n c)) rfl (by kernel_rfl) (by kernel_rfl) (by kernel_rfl) (fun _ _ _ h => h) (Or.inl ⟨by kernel_rfl, by (intro w hSw; obtain ⟨q1, q2⟩ := hSw; go_simp)⟩) hHeld ?_
        try simp only [List.getElem_toArray, List.getElem_cons_zero, List.getElem_cons_succ, Act.put, List.setIfInBounds_toArray, List.set_cons_zero, List.set_cons_succ]
        refine wpAnyH_take (i := 10) (v := (.int .i64 k)) rfl (by kernel_rfl) (by kernel_rfl) (by kernel_rfl) (fun _ _ _ h => h) (Or.inl ⟨by kernel_rfl, by (intro w hSw; obtain ⟨q1, q2⟩ := hSw; go_simp)⟩) hHeld ?_
        try simp only [List.getElem_toArray, List.getElem_cons_zero, List.getElem_cons_succ, Act.put, List.setIfInBounds_toArray, List.set_cons_zero, List.set_cons_succ]
        refine wpAnyH_take (i := 11) (v := (.int .i64 J)) rfl (by kernel_rfl) (by kernel_rfl) (by kernel_rfl) (fun _ _ _ h => h) (Or.inl ⟨by kernel_rfl, by (intro w hSw; obtain ⟨q1, q2⟩ := hSw; go_simp)⟩) hHeld ?_
        try simp only [List.getElem_toArray, List.getElem_cons_zero, List.getElem_cons_succ, Act.put, List.setIfInBounds_toArray, List.set_cons_zero, List.set_cons_succ]
        refine wpAnyH_take (i := 12) (v := (.pointer (some (ad.add J)))) rfl (by kernel_rfl) (by kernel_rfl) (by kernel_rfl) (fun _ _ _ h => h) (Or.inl ⟨by kernel_rfl, by (intro w hSw; obtain ⟨q1, q2⟩ := hSw; go_simp)⟩) hHeld ?_
        try simp only [List.getElem_toArray, List.getElem_cons_zero, List.getElem_cons_succ, Act.put, List.setIfInBounds_toArray, List.set_cons_zero, List.set_cons_succ]
        refine wpAnyH_take (i := 13) (v := (.int .i64 (gI l J))) rfl (by kernel_rfl) (by kernel_rfl) (by kernel_rfl) (fun _ _ _ h => h) (Or.inl ⟨by kernel_rfl, by (intro w hSw; obtain ⟨q1, q2⟩ := hSw; go_simp)⟩) hHeld ?_
        try simp only [List.getElem_toArray, List.getElem_cons_zero, List.getElem_cons_succ, Act.put, List.setIfInBounds_toArray, List.set_cons_zero, List.set_cons_succ]
        refine wpAnyH_ready (rs := [14]) (by kernel_rfl) (by simp) ?_
        refine AllReadyH.cons rfl (fun K hK => ?_) AllReadyH.nil
        refine step_callvT (by kernel_rfl) f #[.int .i64 (gI l k), .int .i64 (gI l J), .pointer (some ⟨g, 0, none⟩)] _ rfl (by simp [execOp, resolve, Act.eval, Act.put]; try exact eg _ _) (fun v w' => ∃ z : Int, v = .int .i64 z ∧ 0 < z ∧ Ext wr.drew w') ((HC.out wr.drew (he.trans (Ext.drew wr)) k J (by omega) (by omega)).mono fun e w' ⟨z, h1, h2, h3, h4⟩ => ⟨_, h1, z, rfl, h3 (by omega), h4⟩) ?_
        rintro v w3 ⟨z, rfl, hz, hx3⟩
        have hzn : ¬ z < 0 := by omega
        refine hK.out _ _ ⟨hx3.cell HSS.out.1, hx3.cell HSS.out.2⟩ (fun hHeld2 => ?_)
        clear hK K hHeld
        try simp only [List.getElem_toArray, List.getElem_cons_zero, List.getElem_cons_succ, Act.put, List.setIfInBounds_toArray, List.set_cons_zero, List.set_cons_succ]
        refine wpAnyH_take (i := 15) (v := (.bool false)) rfl (by kernel_rfl) (by kernel_rfl) (by kernel_rfl) (fun _ _ _ h => h) (Or.inl ⟨by kernel_rfl, by (intro w hSw; obtain ⟨q1, q2⟩ := hSw; go_simp)⟩) hHeld2 ?_
        try simp only [List.getElem_toArray, List.getElem_cons_zero, List.getElem_cons_succ, Act.put, List.setIfInBounds_toArray, List.set_cons_zero, List.set_cons_succ]
        refine wpAnyH_take (i := 16) (v := (.bool false)) rfl (by kernel_rfl) (by kernel_rfl) (by kernel_rfl) (fun _ _ _ h => h) (Or.inl ⟨by rfl, by (intro w hSw; obtain ⟨q1, q2⟩ := hSw; go_simp)⟩) hHeld2 ?_
        try simp only [List.getElem_toArray, List.getElem_cons_zero, List.getElem_cons_succ, Act.put, List.setIfInBounds_toArray, List.set_cons_zero, List.set_cons_succ]
        refine wpAnyH_done (by kernel_rfl) ?_ _
        go_wp2_with fail
        go_roundw
        case rel => exact ⟨k + 1, by omega, by omega, by go_num, he.trans ((Ext.drew wr).trans hx3)⟩
        case measure => simp [intOf]; omega
    · go_wp2_with fail
      go_end0
      exact ⟨rfl, he⟩
end Go.Proofs.Ytdkjkcegchohfaa
