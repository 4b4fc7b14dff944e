/-
  edit.Do at a letter's turn, whatever the line; and where it is no line, or the count is none.
-/
import Derived.Test.YtmhgndjmcignjaaZDoE

namespace Go.Proofs.Ytmhgndjmcignjaa
open Go.RowKit
set_option linter.unusedVariables false
set_option linter.unusedSimpArgs false

theorem noRegs_regs (w : World) : Regs w noRegs (fun _ => []) := (noRegs_own w 0).regs
theorem do_case {w : World} {A : Option Addr} {n c a : Nat} {k1 : Int} {l : List Int} (hl : Ints w A n c l) (hA : A = none → c = 0) (hn : n ≤ 200) (ha : (a : Int) ≤ max 0 ((n : Int) - 1)) (hk : 0 ≤ k1) (hk2 : k1 ≤ 999) :
    Calls Try.prog 8 #[.agg #[.slice A n c, .int .i64 (a : Int)], .agg noRegs, .agg #[.int .i64 0, .int .i64 0], .agg #[.int .i64 k1, .int .i64 0, .int .i64 0, .int .i64 126, .int .i64 0]] w
      (DidIs w (n ≠ 0) (TextIs (w.heap.size + 5) (caseL l a (min (max 1 k1.toNat) (n - a))))) := by
  refine do_walk hl hA (noRegs_regs w) hn (by omega) ha hk hk2 (.inl rfl) (.inl rfl) ?_ ?_
  · rintro w1 w2 cs ⟨hne, B, q, d, h1, h2⟩ hg
    refine ⟨hne, B, q, d, h1, Own.kept h2 hg ?_⟩
    cases hb : (Value.slice B q d).ownBlock with
    | none => exact .inl rfl
    | some g => exact .inr (fun e => by injection e with e; have := (Own.blk h2 g hb).1; omega)
  · intro wz g cs B d hx hg hb hd ho hB
    exact one_case hb hd (hl.ext hx) hn (by omega) hk hk2 (by have := hb.lt; omega)

set_option maxRecDepth 20000 in
set_option maxHeartbeats 4000000 in
/-- What is no line. -/
theorem check_bad {A : Option Addr} {n c : Nat} {a : Int} (w : World) (h : ¬ (n ≤ 200 ∧ 0 ≤ a ∧ a ≤ max 0 ((n : Int) - 1))) (hn : n ≤ maxLen) :
    Calls Try.prog 20 #[.agg #[.slice A n c, .int .i64 a]] w fun e w' => ∃ er, er ≠ 0 ∧ e = .returned (.int .i64 er) ∧ Ext w w' := by
  have hx := Lib.hid (Ext.alloc w (.cells #[.slice A n c, .int .i64 a] 24))
  unfold maxLen at hn
  have hwr : IntKind.i64.wrap ((n : Int) - 1) = (n : Int) - 1 := IntWalk.i64_in _ (by omega)
  go_enter Try.func20, Try.ntmps20
  go_wp2_with fail
  all_goals first
    | (go_ret; exact ⟨2, by decide, rfl, hx.out⟩)
    | (go_ret; exact ⟨1, by decide, rfl, hx.out⟩)
    | (exfalso; omega)
set_option maxRecDepth 20000 in
set_option maxHeartbeats 8000000 in
theorem do_bad {w : World} {A : Option Addr} {n c : Nat} {a fk fa k1 k2 k3 k4 k5 : Int} {rs : Array Value} {Ok : Prop} {Post : World → Array Value → Prop} (hnm : n ≤ maxLen) (h : ¬ (n ≤ 200 ∧ 0 ≤ a ∧ a ≤ max 0 ((n : Int) - 1)) ∨ ¬ (0 ≤ k1 ∧ k1 ≤ 999)) (hno : ¬ Ok) :
    Calls Try.prog 8 #[.agg #[.slice A n c, .int .i64 a], .agg rs, .agg #[.int .i64 fk, .int .i64 fa], .agg #[.int .i64 k1, .int .i64 k2, .int .i64 k3, .int .i64 k4, .int .i64 k5]] w (DidIs w Ok Post) := by
  have HC : Hid (∀ w, Calls Try.prog 20 #[.agg #[.slice A n c, .int .i64 a]] w fun e w' => ∃ er, (er = 0 → ¬ (0 ≤ k1 ∧ k1 ≤ 999)) ∧ e = .returned (.int .i64 er) ∧ Ext w w') := Lib.hid fun w => by
    by_cases hc : n ≤ 200 ∧ 0 ≤ a ∧ a ≤ max 0 ((n : Int) - 1)
    · exact (check_fine w hc.1 hc.2.1 hc.2.2).mono fun e w' ⟨h1, h2⟩ => ⟨0, fun _ => h.resolve_left (fun hh => hh hc), h1, h2⟩
    · exact (check_bad w hc hnm).mono fun e w' ⟨er, h1, h2, h3⟩ => ⟨er, fun hh => absurd hh h1, h2, h3⟩
  have HNo := Lib.hid hno
  obtain ⟨w0, hw0, hx0, hb0, hb1, hb2, hb3, hb4⟩ := do_start w A n c a fk fa k1 k2 k3 k4 k5 rs
  have HX := Lib.hid hx0
  have B0 := Lib.hid hb0
  have B3 := Lib.hid hb3
  have B4 := Lib.hid hb4
  have HW := Lib.hid hw0
  clear hx0 hb0 hb1 hb2 hb3 hb4 hw0 h hno hnm
  go_enter Try.func8, Try.ntmps8
  go_upto_region 1 with fail
  have hw := HW.out
  unfold resZ at hw
  change Code.wp _ _ _ _ (((((w.alloc (.cells #[.slice A n c, .int .i64 a] 24)).alloc (.cells rs 30)).alloc (.cells #[.int .i64 fk, .int .i64 fa] 26)).alloc (.cells #[.int .i64 k1, .int .i64 k2, .int .i64 k3, .int .i64 k4, .int .i64 k5] 28)).alloc (.cells resZ 33))
  unfold resZ
  rw [← hw]
  clear hw HW
  obtain ⟨x0, x1⟩ := cells2L B0.out
  go_wp2_with fail
  refine (HC.out _).mono ?_
  rintro e w1 ⟨er, her, rfl, he1⟩
  have C3 := Lib.hid (B3.out.ext he1)
  have C4 := Lib.hid (B4.out.ext he1)
  have CX := Lib.hid (HX.out.trans he1)
  have HER := Lib.hid her
  clear x0 x1 B0 B3 B4 HX he1 HC her
  by_cases h0 : er = 0
  · subst h0
    have hk := HER.out rfl
    obtain ⟨y0, y1, y2, y3, y4⟩ := cells5 C3.out
    have hor : k1 < 0 ∨ 999 < k1 := by omega
    clear HER hk
    go_wp2_with (refine wpList_store_row rfl 33 (.tmp 8) _ rfl (w.heap.size + 1 + 1 + 1 + 1) resZ rfl rfl 33 resZ C4.out (res_size rfl) rfl resZ_one ?_)
    all_goals first
      | (exfalso; omega)
      | (have hres := C4.out.setRow resZ
         refine bodyPost_ret (v := .tuple #[.agg resZ, .int .i64 1]) ?_ rfl ⟨Ext.setRow CX.out (by omega) _, .inl ⟨HNo.out, 1, by decide, rfl⟩⟩
         exact results_row_tmp rfl _ _ (w.heap.size + 1 + 1 + 1 + 1) 33 _ _ _ _ rfl rfl hres Try.underlying33 rfl (res_size rfl))
  · clear HER
    go_wp2_with (refine wpList_store_row rfl 33 (.tmp 8) _ rfl (w.heap.size + 1 + 1 + 1 + 1) resZ rfl rfl 33 resZ C4.out (res_size rfl) rfl resZ_one ?_)
    have hres := C4.out.setRow resZ
    refine bodyPost_ret (v := .tuple #[.agg resZ, .int .i64 er]) ?_ rfl ⟨Ext.setRow CX.out (by omega) _, .inl ⟨HNo.out, er, h0, rfl⟩⟩
    exact results_row_tmp rfl _ _ (w.heap.size + 1 + 1 + 1 + 1) 33 _ _ _ _ rfl rfl hres Try.underlying33 rfl (res_size rfl)
theorem noRegs_lit : noRegs = #[.slice none 0 0, .slice none 0 0, .slice none 0 0, .slice none 0 0, .slice none 0 0, .slice none 0 0, .slice none 0 0, .slice none 0 0, .slice none 0 0, .slice none 0 0, .slice none 0 0, .slice none 0 0, .slice none 0 0, .slice none 0 0, .slice none 0 0, .slice none 0 0, .slice none 0 0, .slice none 0 0, .slice none 0 0, .slice none 0 0, .slice none 0 0, .slice none 0 0, .slice none 0 0, .slice none 0 0, .slice none 0 0, .slice none 0 0, .slice none 0 0] := by kernel_rfl
theorem do_case_lit {w : World} {A : Option Addr} {n c a : Nat} {k1 : Int} {l : List Int} (hl : Ints w A n c l) (hA : A = none → c = 0) (hn : n ≤ 200) (ha : (a : Int) ≤ max 0 ((n : Int) - 1)) (hk : 0 ≤ k1) (hk2 : k1 ≤ 999) :
    Calls Try.prog 8 #[.agg #[.slice A n c, .int .i64 (a : Int)], .agg #[.slice none 0 0, .slice none 0 0, .slice none 0 0, .slice none 0 0, .slice none 0 0, .slice none 0 0, .slice none 0 0, .slice none 0 0, .slice none 0 0, .slice none 0 0, .slice none 0 0, .slice none 0 0, .slice none 0 0, .slice none 0 0, .slice none 0 0, .slice none 0 0, .slice none 0 0, .slice none 0 0, .slice none 0 0, .slice none 0 0, .slice none 0 0, .slice none 0 0, .slice none 0 0, .slice none 0 0, .slice none 0 0, .slice none 0 0, .slice none 0 0], .agg #[.int .i64 0, .int .i64 0], .agg #[.int .i64 k1, .int .i64 0, .int .i64 0, .int .i64 126, .int .i64 0]] w
      (DidIs w (n ≠ 0) (TextIs (w.heap.size + 5) (caseL l a (min (max 1 k1.toNat) (n - a))))) := by
  have h := do_case (a := a) hl hA hn ha hk hk2
  rw [noRegs_lit] at h
  exact h
/-- A result laid in a block of its own. -/
theorem laid_res (w : World) (vs : Array Value) : Ext w ((w.alloc (.cells resZ 33)).setRow w.heap.size vs) ∧ Blk ((w.alloc (.cells resZ 33)).setRow w.heap.size vs) w.heap.size 33 vs :=
  ⟨Ext.setRow (Ext.alloc w _) (Nat.le_refl _) _, Blk.setRow (Blk.new w 33 resZ) vs⟩
/-- As step_callf, where the operation bears a guard that lets it come. -/
theorem step_callw {P : Program} {ops : Array Oper} {o : Oper} {a : Act} {w : World} {K : Act → World → Prop} {Q : Exit → Act → World → Prop} {E : Prop} {ars : Array Operand} {tys : Array TypeId} (hw : Region.wanted o (yielded ops a.tmps) = true)
    (f : FuncId) (args : Array Value) (ho : o.op = .call { callee := .value (.func f), args := ars, argTypes := tys }) (hrun : (execOp a.eval o).run P w = .ok (.enter f args) w) (R : Value → World → Prop)
    (hc : Calls P f args w fun e w' => ∃ v, e = .returned v ∧ R v w') (h : ∀ v w', R v w' → K (a.put o.dst v) w') : if Region.wanted o (yielded ops a.tmps) = true then Oper.wp P o a w K Q else E := by
  rw [if_pos hw]
  unfold Oper.wp
  rw [hrun, Oper.upon_enter]
  refine hc.mono fun e w' hh => ?_
  obtain ⟨v, rfl, hR⟩ := hh
  exact h v w' hR
/-! What a letter's turn is. -/
theorem turn_turn (x : Int) : turnL (turnL x) = x := by
  unfold turnL
  split
  · rw [if_neg (by omega), if_pos (by omega)]; omega
  · split
    · rw [if_pos (by omega)]; omega
    · rfl
theorem caseL_get {l : List Int} {a k i : Nat} (h : a + k ≤ l.length) (hi : i < l.length) : gI (caseL l a k) i = if a ≤ i ∧ i < a + k then turnL (gI l i) else gI l i := by
  unfold caseL gI
  have h1 : (l.take a).length = a := by simp; omega
  have h2 : (((l.drop a).take k).map turnL).length = k := by simp; omega
  by_cases c1 : i < a
  · rw [if_neg (by omega), List.append_assoc, List.getElem?_append_left (by rw [h1]; exact c1), List.getElem?_take, if_pos c1]
  · by_cases c2 : i < a + k
    · rw [if_pos ⟨by omega, c2⟩, List.getElem?_append_left (by rw [List.length_append, h1, h2]; exact c2), List.getElem?_append_right (by rw [h1]; omega), h1, List.getElem?_map, List.getElem?_take, if_pos (by omega), List.getElem?_drop, show a + (i - a) = i by omega, List.getElem?_eq_getElem hi]
      rfl
    · rw [if_neg (by omega), List.getElem?_append_right (by rw [List.length_append, h1, h2]; omega), List.length_append, h1, h2, List.getElem?_drop, show a + k + (i - (a + k)) = i by omega]
theorem caseL_twice {l : List Int} {a k : Nat} (h : a + k ≤ l.length) : caseL (caseL l a k) a k = l := by
  have h1 : (l.take a).length = a := by simp; omega
  have h2 : (((l.drop a).take k).map turnL).length = k := by simp; omega
  have e1 : (caseL l a k).take a = l.take a := by
    unfold caseL
    rw [List.append_assoc, List.take_append_of_le_length (by omega), List.take_of_length_le (by omega)]
  have e2 : (caseL l a k).drop a = ((l.drop a).take k).map turnL ++ l.drop (a + k) := by
    unfold caseL
    rw [List.append_assoc, List.drop_append_of_le_length (by omega), List.drop_of_length_le (by omega)]
    rfl
  have e3 : (caseL l a k).drop (a + k) = l.drop (a + k) := by
    rw [← List.drop_drop, e2, List.drop_append_of_le_length (by omega), List.drop_of_length_le (by omega)]
    rfl
  rw [caseL, e1, e2, e3, List.take_append_of_le_length (by omega), List.take_of_length_le (l := ((l.drop a).take k).map turnL) (by omega), List.map_map]
  have : (turnL ∘ turnL) = id := by funext x; exact turn_turn x
  rw [this, List.map_id]
  have h3 : l.drop (a + k) = (l.drop a).drop k := by rw [List.drop_drop]
  rw [h3, List.append_assoc, List.take_append_drop, List.take_append_drop]
theorem or_low : ∀ n : Fin 26, bits .or .i64 (97 + (n.val : Int)) 32 = 97 + (n.val : Int) := by decide +kernel
theorem or_up : ∀ n : Fin 26, bits .or .i64 (65 + (n.val : Int)) 32 = 97 + (n.val : Int) := by decide +kernel
theorem or_lowI {x : Int} (h1 : 97 ≤ x) (h2 : x ≤ 122) : bits .or .i64 x 32 = x := by
  have h := or_low ⟨(x - 97).toNat, by omega⟩
  rw [show (97 : Int) + (((⟨(x - 97).toNat, by omega⟩ : Fin 26).val : Nat) : Int) = x by simp; omega] at h
  exact h
theorem or_upI {x : Int} (h1 : 65 ≤ x) (h2 : x ≤ 90) : bits .or .i64 x 32 = x + 32 := by
  have h := or_up ⟨(x - 65).toNat, by omega⟩
  rw [show (65 : Int) + (((⟨(x - 65).toNat, by omega⟩ : Fin 26).val : Nat) : Int) = x by simp; omega] at h
  rw [h]
  simp
  omega
theorem turn_or {x : Int} (h : turnL x ≠ x) : ∃ z, 97 ≤ z ∧ z ≤ 122 ∧ bits .or .i64 x 32 = z ∧ bits .or .i64 (turnL x) 32 = z := by
  unfold turnL at h ⊢
  split
  · rename_i hc
    exact ⟨x, hc.1, hc.2, or_lowI hc.1 hc.2, by rw [or_upI (by omega) (by omega)]; omega⟩
  · rename_i hc
    rw [if_neg hc] at h
    split
    · rename_i hd
      exact ⟨x + 32, by omega, by omega, or_upI hd.1 hd.2, or_lowI (by omega) (by omega)⟩
    · rename_i hd
      rw [if_neg hd] at h
      exact absurd rfl h
end Go.Proofs.Ytmhgndjmcignjaa
