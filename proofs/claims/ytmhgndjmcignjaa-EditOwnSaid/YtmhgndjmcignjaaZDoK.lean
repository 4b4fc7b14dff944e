/-
  The doer's keep: some characters in a register.
-/
import Derived.Test.YtmhgndjmcignjaaZDoP

namespace Go.Proofs.Ytmhgndjmcignjaa
open Go.RowKit
set_option linter.unusedVariables false
set_option linter.unusedSimpArgs false

theorem run_load_at {P : Program} {o : Oper} {a : Act} {w : World} (hgd : o.guard = none) (ty : TypeId) (x : Operand) (ho : o.op = .load ty x) (g off : Nat) (hx : a.eval x = .pointer (some ⟨g, off, none⟩)) (t : TypeId) (cs vs : Array Value) (fr : Nat × Nat) (d : TypeDesc) (hg : w.heap[g]? = some (.cells cs t fr)) (hv : ∀ j v, vs[j]? = some v → cs[off + j]? = some v)
    (hu : P.underlying ty = some d) (hd : (match d with | .struct _ | .array _ _ => true | _ => false) = true) (hi : (P.info? ty).map (·.size) = some vs.size) : (execOp a.eval o).run P w = .ok (.value (.agg vs)) w := by
  unfold execOp
  simp only [ho, hx, Instr.loadAt, Instr.sureAddr, Sem.run_bind, Sem.run_pure, Result.andThen_ok, run_loadVar_at w g off t ty cs vs fr d hg hv hu hd hi]
theorem seg_all {cs vs : Array Value} (h : vs.size = cs.size) : seg cs 0 vs = vs := by
  unfold seg
  rw [List.drop_of_length_le (by simp; omega)]
  simp
/-- What Put comes to. -/
def PutRes (rl : Nat → List Int) (k : Int) (text : List Int) (x : Int) (rs' : Nat → List Int) : Prop :=
  (x ≠ 0 ∧ ¬ ∃ i m, regNo k = some (i, m) ∧ ¬ putBig rl i m text) ∨ (x = 0 ∧ ∃ i m, regNo k = some (i, m) ∧ ¬ putBig rl i m text ∧ rs' = putF rl i m text)
theorem put_all {w : World} {cs : Array Value} {rl : Nat → List Int} {k : Int} {A : Option Addr} {n c : Nat} {text : List Int} (hr : Regs w cs rl) (ht : Ints w A n c text) (hA : A = none → c = 0) :
    Calls Try.prog 56 #[.agg cs, .int .i64 k, .slice A n c] w fun e w' => ∃ ds x rs', e = .returned (.tuple #[.agg ds, .int .i64 x]) ∧ RegsO w' w.heap.size ds rs' ∧ PutRes rl k text x rs' ∧ Ext w w' := by
  cases h : regNo k with
  | none => exact (put_key h).mono fun e w' ⟨h1, h2⟩ => ⟨noRegs, 9, _, h1, noRegs_own _ _, .inl ⟨by decide, fun ⟨i, m, h9, _⟩ => by rw [h] at h9; cases h9⟩, h2⟩
  | some p =>
    obtain ⟨i, m⟩ := p
    by_cases hb : putBig rl i m text
    · exact (put_large hr ht h hb).mono fun e w' ⟨h1, h2⟩ => ⟨noRegs, 2, _, h1, noRegs_own _ _, .inl ⟨by decide, fun ⟨i', m', h9, h8⟩ => by rw [h] at h9; injection h9 with h9; injection h9 with h9 h7; subst h9; subst h7; exact h8 hb⟩, h2⟩
    · exact (put_ok hr ht hA h hb).mono fun e w' ⟨ds, h1, h2, h3⟩ => ⟨ds, 0, _, h1, h2.1, .inr ⟨rfl, i, m, h, hb, rfl⟩, h3⟩
/-- What keep leaves. -/
def KeepIs (w : World) (g : Nat) (cs : Array Value) (rl : Nat → List Int) (k : Int) (text : List Int) (e : Ending) (w' : World) : Prop :=
  ∃ x, e = .returned (.int .i64 x) ∧ w.grownBy w' (some g) ∧ ((∃ i m, regNo k = some (i, m) ∧ ¬ putBig rl i m text) → x = 0) ∧ (x = 0 → ∃ ds rs', Blk w' g 57 (seg cs 36 ds) ∧ RegsO w' w.heap.size ds rs' ∧ ∃ i m, regNo k = some (i, m) ∧ ¬ putBig rl i m text ∧ rs' = putF rl i m text)

set_option maxRecDepth 20000 in
set_option maxHeartbeats 8000000 in
theorem keep_ok {w : World} {g n c f t : Nat} {cs rs : Array Value} {A : Option Addr} {l : List Int} {rl : Nat → List Int} {k2 : Int} (hb : Blk w g 57 cs) (hz : cs.size = 67) (h0 : cs[0]? = some (.slice A n c)) (h30 : cs[30]? = some (.int .i64 k2)) (hrs : ∀ j, j < 27 → cs[2 + j]? = rs[j]?) (hr : Regs w rs rl) (hl : Ints w A n c l) (hA : A = none → c = 0) (hft : f ≤ t) (htn : t ≤ n) (hn : n ≤ 200) :
    Calls Try.prog 44 #[.pointer (some ⟨g, 0, none⟩), .int .i64 (f : Int), .int .i64 (t : Int)] w (KeepIs w g cs rl k2 ((l.drop f).take (t - f))) := by
  have hnc := hl.ncap
  have hcm := hl.nmax
  unfold maxLen at hcm
  have x0 : w.cell? ⟨g, 0, none⟩ = some (.slice A n c) := (hb.cell 0).trans h0
  have x30 : w.cell? ⟨g, 30, none⟩ = some (.int .i64 k2) := (hb.cell 30).trans h30
  have hgw := hb.lt
  have HB := Lib.hid hb
  have HZ := Lib.hid hz
  have HRs := Lib.hid hr.1
  have HRv : Hid (∀ j v, rs[j]? = some v → cs[2 + j]? = some v) := Lib.hid (fun j v hj => by
    have hlt := (Array.getElem?_eq_some_iff.1 hj).1
    rw [hr.1] at hlt
    rw [hrs j hlt]; exact hj)
  obtain ⟨T2, hT2⟩ : ∃ T2, (if c = f then A else Option.map (fun x => x.add f) A) = T2 := ⟨_, rfl⟩
  have HP : Hid (∀ wx, Ext w wx → Calls Try.prog 56 #[.agg rs, .int .i64 k2, .slice T2 (t - f) (c - f)] wx fun e w' => ∃ ds x rs', e = .returned (.tuple #[.agg ds, .int .i64 x]) ∧ RegsO w' wx.heap.size ds rs' ∧ PutRes rl k2 ((l.drop f).take (t - f)) x rs' ∧ Ext wx w') := Lib.hid fun wx he => by
    have h := (hl.ext he).cut hft htn
    rw [hT2] at h
    refine put_all (hr.ext he) h (fun e => ?_)
    rw [← hT2] at e
    by_cases hcf : c = f
    · omega
    · rw [if_neg hcf] at e
      cases A with
      | none => have := hA rfl; omega
      | some a => cases e
  have hfc : f ≤ c := by omega
  have htc : t ≤ c := by omega
  have hfn : f ≤ n := by omega
  clear hb hz h0 h30 hrs hr hl hA
  go_enter Try.func44, Try.ntmps44
  go_upto_region 1 with fail
  go_cut [7, 8] (fun v7 v8 wx => ∃ p ds x rs', v7 = .pointer (some ⟨p, 0, none⟩) ∧ v8 = .int .i64 x ∧ w.heap.size ≤ p ∧ Hid (Blk wx p 30 ds) ∧ Hid (RegsO wx w.heap.size ds rs') ∧ Hid (PutRes rl k2 ((l.drop f).take (t - f)) x rs') ∧ Hid (Ext w wx))
  case first =>
    refine wp_region_held_drew (S := fun w' => w'.cell? ⟨g, 0, none⟩ = some (.slice A n c) ∧ w'.cell? ⟨g, 30, none⟩ = some (.int .i64 k2) ∧ Blk w' g 57 cs) (by kernel_rfl) ⟨x0, x30, HB.out⟩ (fun hHeld => ?_)
    refine wpAnyH_take (i := 0) (v := (.pointer (some ⟨g, 0, none⟩))) rfl (by kernel_rfl) (by kernel_rfl) (by kernel_rfl) (fun _ _ _ h => h) (Or.inl ⟨by rfl, by (intro w hSw; obtain ⟨s0, s1, s2⟩ := hSw; go_simp)⟩) hHeld ?_
    try simp only [List.getElem_toArray, List.getElem_cons_zero, List.getElem_cons_succ, Act.put, List.setIfInBounds_toArray, List.set_cons_zero, List.set_cons_succ]
    refine wpAnyH_take (i := 1) (v := (.pointer (some ⟨g, 0, none⟩))) rfl (by kernel_rfl) (by kernel_rfl) (by kernel_rfl) (fun _ _ _ h => h) (Or.inl ⟨by rfl, by (intro w hSw; obtain ⟨s0, s1, s2⟩ := hSw; go_simp)⟩) hHeld ?_
    try simp only [List.getElem_toArray, List.getElem_cons_zero, List.getElem_cons_succ, Act.put, List.setIfInBounds_toArray, List.set_cons_zero, List.set_cons_succ]
    refine wpAnyH_take (i := 2) (v := (.pointer (some ⟨g, 2, none⟩))) rfl (by kernel_rfl) (by kernel_rfl) (by kernel_rfl) (fun _ _ _ h => h) (Or.inl ⟨by rfl, by (intro w hSw; obtain ⟨s0, s1, s2⟩ := hSw; go_simp)⟩) hHeld ?_
    try simp only [List.getElem_toArray, List.getElem_cons_zero, List.getElem_cons_succ, Act.put, List.setIfInBounds_toArray, List.set_cons_zero, List.set_cons_succ]
    refine wpAnyH_take (i := 3) (v := (.agg rs)) rfl (by kernel_rfl) (by kernel_rfl) (by kernel_rfl) (fun _ _ _ h => h) (Or.inl ⟨by rfl, by (intro w hSw; exact run_load_at rfl 30 (.tmp 12) rfl g 2 rfl 57 cs rs (0, 0) _ hSw.2.2 HRv.out Try.underlying30 rfl (regs_size HRs.out))⟩) hHeld ?_
    try simp only [List.getElem_toArray, List.getElem_cons_zero, List.getElem_cons_succ, Act.put, List.setIfInBounds_toArray, List.set_cons_zero, List.set_cons_succ]
    refine wpAnyH_take (i := 4) (v := (.pointer (some ⟨g, 0, none⟩))) rfl (by kernel_rfl) (by kernel_rfl) (by kernel_rfl) (fun _ _ _ h => h) (Or.inl ⟨by rfl, by (intro w hSw; obtain ⟨s0, s1, s2⟩ := hSw; go_simp)⟩) hHeld ?_
    try simp only [List.getElem_toArray, List.getElem_cons_zero, List.getElem_cons_succ, Act.put, List.setIfInBounds_toArray, List.set_cons_zero, List.set_cons_succ]
    refine wpAnyH_take (i := 5) (v := (.pointer (some ⟨g, 0, none⟩))) rfl (by kernel_rfl) (by kernel_rfl) (by kernel_rfl) (fun _ _ _ h => h) (Or.inl ⟨by rfl, by (intro w hSw; obtain ⟨s0, s1, s2⟩ := hSw; go_simp)⟩) hHeld ?_
    try simp only [List.getElem_toArray, List.getElem_cons_zero, List.getElem_cons_succ, Act.put, List.setIfInBounds_toArray, List.set_cons_zero, List.set_cons_succ]
    refine wpAnyH_take (i := 6) (v := (.pointer (some ⟨g, 29, none⟩))) rfl (by kernel_rfl) (by kernel_rfl) (by kernel_rfl) (fun _ _ _ h => h) (Or.inl ⟨by rfl, by (intro w hSw; obtain ⟨s0, s1, s2⟩ := hSw; go_simp)⟩) hHeld ?_
    try simp only [List.getElem_toArray, List.getElem_cons_zero, List.getElem_cons_succ, Act.put, List.setIfInBounds_toArray, List.set_cons_zero, List.set_cons_succ]
    refine wpAnyH_take (i := 7) (v := (.pointer (some ⟨g, 30, none⟩))) rfl (by kernel_rfl) (by kernel_rfl) (by kernel_rfl) (fun _ _ _ h => h) (Or.inl ⟨by rfl, by (intro w hSw; obtain ⟨s0, s1, s2⟩ := hSw; go_simp)⟩) hHeld ?_
    try simp only [List.getElem_toArray, List.getElem_cons_zero, List.getElem_cons_succ, Act.put, List.setIfInBounds_toArray, List.set_cons_zero, List.set_cons_succ]
    refine wpAnyH_take (i := 8) (v := (.int .i64 k2)) rfl (by kernel_rfl) (by kernel_rfl) (by kernel_rfl) (fun _ _ _ h => h) (Or.inl ⟨by rfl, by (intro w hSw; obtain ⟨s0, s1, s2⟩ := hSw; go_simp)⟩) hHeld ?_
    try simp only [List.getElem_toArray, List.getElem_cons_zero, List.getElem_cons_succ, Act.put, List.setIfInBounds_toArray, List.set_cons_zero, List.set_cons_succ]
    refine wpAnyH_take (i := 9) (v := (.pointer (some ⟨g, 0, none⟩))) rfl (by kernel_rfl) (by kernel_rfl) (by kernel_rfl) (fun _ _ _ h => h) (Or.inl ⟨by rfl, by (intro w hSw; obtain ⟨s0, s1, s2⟩ := hSw; go_simp)⟩) hHeld ?_
    try simp only [List.getElem_toArray, List.getElem_cons_zero, List.getElem_cons_succ, Act.put, List.setIfInBounds_toArray, List.set_cons_zero, List.set_cons_succ]
    refine wpAnyH_take (i := 10) (v := (.pointer (some ⟨g, 0, none⟩))) rfl (by kernel_rfl) (by kernel_rfl) (by kernel_rfl) (fun _ _ _ h => h) (Or.inl ⟨by rfl, by (intro w hSw; obtain ⟨s0, s1, s2⟩ := hSw; go_simp)⟩) hHeld ?_
    try simp only [List.getElem_toArray, List.getElem_cons_zero, List.getElem_cons_succ, Act.put, List.setIfInBounds_toArray, List.set_cons_zero, List.set_cons_succ]
    refine wpAnyH_take (i := 11) (v := (.pointer (some ⟨g, 0, none⟩))) rfl (by kernel_rfl) (by kernel_rfl) (by kernel_rfl) (fun _ _ _ h => h) (Or.inl ⟨by rfl, by (intro w hSw; obtain ⟨s0, s1, s2⟩ := hSw; go_simp)⟩) hHeld ?_
    try simp only [List.getElem_toArray, List.getElem_cons_zero, List.getElem_cons_succ, Act.put, List.setIfInBounds_toArray, List.set_cons_zero, List.set_cons_succ]
    refine wpAnyH_take (i := 12) (v := (.pointer (some ⟨g, 0, none⟩))) rfl (by kernel_rfl) (by kernel_rfl) (by kernel_rfl) (fun _ _ _ h => h) (Or.inl ⟨by rfl, by (intro w hSw; obtain ⟨s0, s1, s2⟩ := hSw; go_simp)⟩) hHeld ?_
    try simp only [List.getElem_toArray, List.getElem_cons_zero, List.getElem_cons_succ, Act.put, List.setIfInBounds_toArray, List.set_cons_zero, List.set_cons_succ]
    refine wpAnyH_take (i := 13) (v := (.slice A n c)) rfl (by kernel_rfl) (by kernel_rfl) (by kernel_rfl) (fun _ _ _ h => h) (Or.inl ⟨by rfl, by (intro w hSw; obtain ⟨s0, s1, s2⟩ := hSw; go_simp)⟩) hHeld ?_
    try simp only [List.getElem_toArray, List.getElem_cons_zero, List.getElem_cons_succ, Act.put, List.setIfInBounds_toArray, List.set_cons_zero, List.set_cons_succ]
    refine wpAnyH_take (i := 14) (v := (.int .i64 (f : Int))) rfl (by kernel_rfl) (by kernel_rfl) (by kernel_rfl) (fun _ _ _ h => h) (Or.inl ⟨by rfl, by (intro w hSw; obtain ⟨s0, s1, s2⟩ := hSw; go_simp)⟩) hHeld ?_
    try simp only [List.getElem_toArray, List.getElem_cons_zero, List.getElem_cons_succ, Act.put, List.setIfInBounds_toArray, List.set_cons_zero, List.set_cons_succ]
    refine wpAnyH_take (i := 15) (v := (.int .i64 (t : Int))) rfl (by kernel_rfl) (by kernel_rfl) (by kernel_rfl) (fun _ _ _ h => h) (Or.inl ⟨by rfl, by (intro w hSw; obtain ⟨s0, s1, s2⟩ := hSw; go_simp)⟩) hHeld ?_
    try simp only [List.getElem_toArray, List.getElem_cons_zero, List.getElem_cons_succ, Act.put, List.setIfInBounds_toArray, List.set_cons_zero, List.set_cons_succ]
    refine wpAnyH_take (i := 16) (v := (.slice T2 (t - f) (c - f))) rfl (by kernel_rfl) (by kernel_rfl) (by kernel_rfl) (fun _ _ _ h => h) (Or.inl ⟨by rfl, by (intro w hSw; obtain ⟨s0, s1, s2⟩ := hSw; go_simp)⟩) hHeld ?_
    try simp only [List.getElem_toArray, List.getElem_cons_zero, List.getElem_cons_succ, Act.put, List.setIfInBounds_toArray, List.set_cons_zero, List.set_cons_succ]
    refine wpAnyH_ready (rs := [17, 21]) (by kernel_rfl) (by simp) ?_
    refine AllReadyH.cons rfl (fun K hK => ?_) (AllReadyH.cons rfl (fun K hK => ?_) AllReadyH.nil)
    ·
      refine step_callf rfl 56 #[.agg rs, .int .i64 k2, .slice T2 (t - f) (c - f)] rfl (by kernel_rfl) (fun v w' => ∃ ds x rs', v = .tuple #[.agg ds, .int .i64 x] ∧ RegsO w' w.drew.heap.size ds rs' ∧ PutRes rl k2 (l.drop f |>.take (t - f)) x rs' ∧ Ext w.drew w') ((HP.out _ (Ext.drew w)).mono fun e w' ⟨ds, x, rs', h1, h2, h3, h4⟩ => ⟨_, h1, ds, x, rs', rfl, h2, h3, h4⟩) ?_
      rintro v w3 ⟨ds, x, rs', rfl, hR3, hP3, hx3⟩
      have hb3 := (HB.out.ext (Ext.drew w)).ext hx3
      refine hK.out _ _ ⟨hx3.cell x0, hx3.cell x30, hb3⟩ (fun hHeld2 => ?_)
      clear hK K hHeld
      try simp only [List.getElem_toArray, List.getElem_cons_zero, List.getElem_cons_succ, Act.put, List.setIfInBounds_toArray, List.set_cons_zero, List.set_cons_succ]
      refine wpAnyH_take (i := 18) (v := (.tuple #[.agg ds, .int .i64 x])) rfl (by kernel_rfl) (by kernel_rfl) (by kernel_rfl) (fun _ _ _ h => h) (Or.inl ⟨by rfl, by (intro w hSw; obtain ⟨s0, s1, s2⟩ := hSw; go_simp)⟩) hHeld2 ?_
      try simp only [List.getElem_toArray, List.getElem_cons_zero, List.getElem_cons_succ, Act.put, List.setIfInBounds_toArray, List.set_cons_zero, List.set_cons_succ]
      refine wpAnyH_take (i := 19) (v := (.agg ds)) rfl (by kernel_rfl) (by kernel_rfl) (by kernel_rfl) (fun _ _ _ h => h) (Or.inl ⟨by rfl, by (intro w hSw; obtain ⟨s0, s1, s2⟩ := hSw; go_simp)⟩) hHeld2 ?_
      try simp only [List.getElem_toArray, List.getElem_cons_zero, List.getElem_cons_succ, Act.put, List.setIfInBounds_toArray, List.set_cons_zero, List.set_cons_succ]
      refine wpAnyH_take (i := 20) (v := (.int .i64 x)) rfl (by kernel_rfl) (by kernel_rfl) (by kernel_rfl) (fun _ _ _ h => h) (Or.inl ⟨by rfl, by (intro w hSw; obtain ⟨s0, s1, s2⟩ := hSw; go_simp)⟩) hHeld2 ?_
      try simp only [List.getElem_toArray, List.getElem_cons_zero, List.getElem_cons_succ, Act.put, List.setIfInBounds_toArray, List.set_cons_zero, List.set_cons_succ]
      refine wpAnyH_ready (rs := [21]) (by kernel_rfl) (by simp) ?_
      refine AllReadyH.cons rfl (fun K hK => ?_) AllReadyH.nil
      go_simp
      have hxa := Ext.alloc w3 (.cells #[.slice none 0 0, .slice none 0 0, .slice none 0 0, .slice none 0 0, .slice none 0 0, .slice none 0 0, .slice none 0 0, .slice none 0 0, .slice none 0 0, .slice none 0 0, .slice none 0 0, .slice none 0 0, .slice none 0 0, .slice none 0 0, .slice none 0 0, .slice none 0 0, .slice none 0 0, .slice none 0 0, .slice none 0 0, .slice none 0 0, .slice none 0 0, .slice none 0 0, .slice none 0 0, .slice none 0 0, .slice none 0 0, .slice none 0 0, .slice none 0 0] 30)
      refine hK.out _ _ ⟨hxa.cell (hx3.cell x0), hxa.cell (hx3.cell x30), hb3.ext hxa⟩ (fun hHeld3 => ?_)
      clear hK K hHeld2
      try simp only [List.getElem_toArray, List.getElem_cons_zero, List.getElem_cons_succ, Act.put, List.setIfInBounds_toArray, List.set_cons_zero, List.set_cons_succ]
      refine wpAnyH_ready (rs := [22]) (by kernel_rfl) (by simp) ?_
      refine AllReadyH.cons rfl (fun K hK => ?_) AllReadyH.nil
      refine step_store_at rfl 30 (.tmp 7) (.tmp 28) rfl w3.heap.size 0 ds rfl rfl 30 #[.slice none 0 0, .slice none 0 0, .slice none 0 0, .slice none 0 0, .slice none 0 0, .slice none 0 0, .slice none 0 0, .slice none 0 0, .slice none 0 0, .slice none 0 0, .slice none 0 0, .slice none 0 0, .slice none 0 0, .slice none 0 0, .slice none 0 0, .slice none 0 0, .slice none 0 0, .slice none 0 0, .slice none 0 0, .slice none 0 0, .slice none 0 0, .slice none 0 0, .slice none 0 0, .slice none 0 0, .slice none 0 0, .slice none 0 0, .slice none 0 0] (Blk.new w3 _ _) (regs_size hR3.1) (by rw [hR3.1]; exact Nat.le_refl 27) hR3.regs.one ?_
      have hxf : Ext w3 ((w3.alloc (.cells #[.slice none 0 0, .slice none 0 0, .slice none 0 0, .slice none 0 0, .slice none 0 0, .slice none 0 0, .slice none 0 0, .slice none 0 0, .slice none 0 0, .slice none 0 0, .slice none 0 0, .slice none 0 0, .slice none 0 0, .slice none 0 0, .slice none 0 0, .slice none 0 0, .slice none 0 0, .slice none 0 0, .slice none 0 0, .slice none 0 0, .slice none 0 0, .slice none 0 0, .slice none 0 0, .slice none 0 0, .slice none 0 0, .slice none 0 0, .slice none 0 0] 30)).setRow w3.heap.size (seg #[.slice none 0 0, .slice none 0 0, .slice none 0 0, .slice none 0 0, .slice none 0 0, .slice none 0 0, .slice none 0 0, .slice none 0 0, .slice none 0 0, .slice none 0 0, .slice none 0 0, .slice none 0 0, .slice none 0 0, .slice none 0 0, .slice none 0 0, .slice none 0 0, .slice none 0 0, .slice none 0 0, .slice none 0 0, .slice none 0 0, .slice none 0 0, .slice none 0 0, .slice none 0 0, .slice none 0 0, .slice none 0 0, .slice none 0 0, .slice none 0 0] 0 ds)) := Ext.setRow (Ext.alloc w3 _) (Nat.le_refl _) _
      have hbf : Blk ((w3.alloc (.cells #[.slice none 0 0, .slice none 0 0, .slice none 0 0, .slice none 0 0, .slice none 0 0, .slice none 0 0, .slice none 0 0, .slice none 0 0, .slice none 0 0, .slice none 0 0, .slice none 0 0, .slice none 0 0, .slice none 0 0, .slice none 0 0, .slice none 0 0, .slice none 0 0, .slice none 0 0, .slice none 0 0, .slice none 0 0, .slice none 0 0, .slice none 0 0, .slice none 0 0, .slice none 0 0, .slice none 0 0, .slice none 0 0, .slice none 0 0, .slice none 0 0] 30)).setRow w3.heap.size (seg #[.slice none 0 0, .slice none 0 0, .slice none 0 0, .slice none 0 0, .slice none 0 0, .slice none 0 0, .slice none 0 0, .slice none 0 0, .slice none 0 0, .slice none 0 0, .slice none 0 0, .slice none 0 0, .slice none 0 0, .slice none 0 0, .slice none 0 0, .slice none 0 0, .slice none 0 0, .slice none 0 0, .slice none 0 0, .slice none 0 0, .slice none 0 0, .slice none 0 0, .slice none 0 0, .slice none 0 0, .slice none 0 0, .slice none 0 0, .slice none 0 0] 0 ds)) w3.heap.size 30 (seg #[.slice none 0 0, .slice none 0 0, .slice none 0 0, .slice none 0 0, .slice none 0 0, .slice none 0 0, .slice none 0 0, .slice none 0 0, .slice none 0 0, .slice none 0 0, .slice none 0 0, .slice none 0 0, .slice none 0 0, .slice none 0 0, .slice none 0 0, .slice none 0 0, .slice none 0 0, .slice none 0 0, .slice none 0 0, .slice none 0 0, .slice none 0 0, .slice none 0 0, .slice none 0 0, .slice none 0 0, .slice none 0 0, .slice none 0 0, .slice none 0 0] 0 ds) := Blk.setRow (Blk.new w3 30 #[.slice none 0 0, .slice none 0 0, .slice none 0 0, .slice none 0 0, .slice none 0 0, .slice none 0 0, .slice none 0 0, .slice none 0 0, .slice none 0 0, .slice none 0 0, .slice none 0 0, .slice none 0 0, .slice none 0 0, .slice none 0 0, .slice none 0 0, .slice none 0 0, .slice none 0 0, .slice none 0 0, .slice none 0 0, .slice none 0 0, .slice none 0 0, .slice none 0 0, .slice none 0 0, .slice none 0 0, .slice none 0 0, .slice none 0 0, .slice none 0 0]) _
      rw [seg_all (by rw [hR3.1]; rfl)] at hxf hbf ⊢
      have HF := Lib.hid (And.intro hbf (And.intro (hR3.ext hxf) (((Ext.drew w).trans hx3).trans hxf)))
      have hlt : w.heap.size ≤ w3.heap.size := hx3.hsize
      refine hK.out _ _ ⟨hxf.cell (hx3.cell x0), hxf.cell (hx3.cell x30), hb3.ext hxf⟩ (fun hHeld4 => ?_)
      clear hK K hHeld3
      try simp only [List.getElem_toArray, List.getElem_cons_zero, List.getElem_cons_succ, Act.put, List.setIfInBounds_toArray, List.set_cons_zero, List.set_cons_succ]
      refine wpAnyH_take (i := 23) (v := (.int .i64 x)) rfl (by kernel_rfl) (by kernel_rfl) (by kernel_rfl) (fun _ _ _ h => h) (Or.inl ⟨by rfl, by (intro w hSw; obtain ⟨s0, s1, s2⟩ := hSw; go_simp)⟩) hHeld4 ?_
      try simp only [List.getElem_toArray, List.getElem_cons_zero, List.getElem_cons_succ, Act.put, List.setIfInBounds_toArray, List.set_cons_zero, List.set_cons_succ]
      refine wpAnyH_done (by kernel_rfl) ?_ _
      try go_wp2_with fail
      go_meet
      exact ⟨w3.heap.size, ds, x, rs', rfl, rfl, hlt, Lib.hid HF.out.1, Lib.hid (RegsO.lower HF.out.2.1 (show w.heap.size ≤ w.drew.heap.size from Nat.le_refl _)), Lib.hid hP3, Lib.hid HF.out.2.2⟩
    ·
      go_simp
      have hxa : Ext w (w.drew.alloc (.cells #[.slice none 0 0, .slice none 0 0, .slice none 0 0, .slice none 0 0, .slice none 0 0, .slice none 0 0, .slice none 0 0, .slice none 0 0, .slice none 0 0, .slice none 0 0, .slice none 0 0, .slice none 0 0, .slice none 0 0, .slice none 0 0, .slice none 0 0, .slice none 0 0, .slice none 0 0, .slice none 0 0, .slice none 0 0, .slice none 0 0, .slice none 0 0, .slice none 0 0, .slice none 0 0, .slice none 0 0, .slice none 0 0, .slice none 0 0, .slice none 0 0] 30)) := (Ext.drew w).to_alloc _
      have hba : Blk (w.drew.alloc (.cells #[.slice none 0 0, .slice none 0 0, .slice none 0 0, .slice none 0 0, .slice none 0 0, .slice none 0 0, .slice none 0 0, .slice none 0 0, .slice none 0 0, .slice none 0 0, .slice none 0 0, .slice none 0 0, .slice none 0 0, .slice none 0 0, .slice none 0 0, .slice none 0 0, .slice none 0 0, .slice none 0 0, .slice none 0 0, .slice none 0 0, .slice none 0 0, .slice none 0 0, .slice none 0 0, .slice none 0 0, .slice none 0 0, .slice none 0 0, .slice none 0 0] 30)) w.heap.size 30 #[.slice none 0 0, .slice none 0 0, .slice none 0 0, .slice none 0 0, .slice none 0 0, .slice none 0 0, .slice none 0 0, .slice none 0 0, .slice none 0 0, .slice none 0 0, .slice none 0 0, .slice none 0 0, .slice none 0 0, .slice none 0 0, .slice none 0 0, .slice none 0 0, .slice none 0 0, .slice none 0 0, .slice none 0 0, .slice none 0 0, .slice none 0 0, .slice none 0 0, .slice none 0 0, .slice none 0 0, .slice none 0 0, .slice none 0 0, .slice none 0 0] := Blk.new w.drew _ _
      skip
      refine hK.out _ _ ⟨hxa.cell x0, hxa.cell x30, HB.out.ext hxa⟩ (fun hHeld2 => ?_)
      clear hK K hHeld
      try simp only [List.getElem_toArray, List.getElem_cons_zero, List.getElem_cons_succ, Act.put, List.setIfInBounds_toArray, List.set_cons_zero, List.set_cons_succ]
      refine wpAnyH_ready (rs := [17]) (by kernel_rfl) (by simp) ?_
      refine AllReadyH.cons rfl (fun K hK => ?_) AllReadyH.nil
      refine step_callf rfl 56 #[.agg rs, .int .i64 k2, .slice T2 (t - f) (c - f)] rfl (by kernel_rfl) (fun v w' => ∃ ds x rs', v = .tuple #[.agg ds, .int .i64 x] ∧ RegsO w' (w.drew.alloc (.cells #[.slice none 0 0, .slice none 0 0, .slice none 0 0, .slice none 0 0, .slice none 0 0, .slice none 0 0, .slice none 0 0, .slice none 0 0, .slice none 0 0, .slice none 0 0, .slice none 0 0, .slice none 0 0, .slice none 0 0, .slice none 0 0, .slice none 0 0, .slice none 0 0, .slice none 0 0, .slice none 0 0, .slice none 0 0, .slice none 0 0, .slice none 0 0, .slice none 0 0, .slice none 0 0, .slice none 0 0, .slice none 0 0, .slice none 0 0, .slice none 0 0] 30)).heap.size ds rs' ∧ PutRes rl k2 (l.drop f |>.take (t - f)) x rs' ∧ Ext (w.drew.alloc (.cells #[.slice none 0 0, .slice none 0 0, .slice none 0 0, .slice none 0 0, .slice none 0 0, .slice none 0 0, .slice none 0 0, .slice none 0 0, .slice none 0 0, .slice none 0 0, .slice none 0 0, .slice none 0 0, .slice none 0 0, .slice none 0 0, .slice none 0 0, .slice none 0 0, .slice none 0 0, .slice none 0 0, .slice none 0 0, .slice none 0 0, .slice none 0 0, .slice none 0 0, .slice none 0 0, .slice none 0 0, .slice none 0 0, .slice none 0 0, .slice none 0 0] 30)) w') ((HP.out _ hxa).mono fun e w' ⟨ds, x, rs', h1, h2, h3, h4⟩ => ⟨_, h1, ds, x, rs', rfl, h2, h3, h4⟩) ?_
      rintro v w3 ⟨ds, x, rs', rfl, hR3, hP3, hx3⟩
      have hb3 := (HB.out.ext hxa).ext hx3
      have hc3 := hba.ext hx3
      refine hK.out _ _ ⟨hx3.cell (hxa.cell x0), hx3.cell (hxa.cell x30), hb3⟩ (fun hHeld3 => ?_)
      clear hK K hHeld2
      try simp only [List.getElem_toArray, List.getElem_cons_zero, List.getElem_cons_succ, Act.put, List.setIfInBounds_toArray, List.set_cons_zero, List.set_cons_succ]
      refine wpAnyH_take (i := 18) (v := (.tuple #[.agg ds, .int .i64 x])) rfl (by kernel_rfl) (by kernel_rfl) (by kernel_rfl) (fun _ _ _ h => h) (Or.inl ⟨by rfl, by (intro w hSw; obtain ⟨s0, s1, s2⟩ := hSw; go_simp)⟩) hHeld3 ?_
      try simp only [List.getElem_toArray, List.getElem_cons_zero, List.getElem_cons_succ, Act.put, List.setIfInBounds_toArray, List.set_cons_zero, List.set_cons_succ]
      refine wpAnyH_take (i := 19) (v := (.agg ds)) rfl (by kernel_rfl) (by kernel_rfl) (by kernel_rfl) (fun _ _ _ h => h) (Or.inl ⟨by rfl, by (intro w hSw; obtain ⟨s0, s1, s2⟩ := hSw; go_simp)⟩) hHeld3 ?_
      try simp only [List.getElem_toArray, List.getElem_cons_zero, List.getElem_cons_succ, Act.put, List.setIfInBounds_toArray, List.set_cons_zero, List.set_cons_succ]
      refine wpAnyH_take (i := 20) (v := (.int .i64 x)) rfl (by kernel_rfl) (by kernel_rfl) (by kernel_rfl) (fun _ _ _ h => h) (Or.inl ⟨by rfl, by (intro w hSw; obtain ⟨s0, s1, s2⟩ := hSw; go_simp)⟩) hHeld3 ?_
      try simp only [List.getElem_toArray, List.getElem_cons_zero, List.getElem_cons_succ, Act.put, List.setIfInBounds_toArray, List.set_cons_zero, List.set_cons_succ]
      refine wpAnyH_ready (rs := [22]) (by kernel_rfl) (by simp) ?_
      refine AllReadyH.cons rfl (fun K hK => ?_) AllReadyH.nil
      refine step_store_at rfl 30 (.tmp 7) (.tmp 28) rfl w.heap.size 0 ds rfl rfl 30 #[.slice none 0 0, .slice none 0 0, .slice none 0 0, .slice none 0 0, .slice none 0 0, .slice none 0 0, .slice none 0 0, .slice none 0 0, .slice none 0 0, .slice none 0 0, .slice none 0 0, .slice none 0 0, .slice none 0 0, .slice none 0 0, .slice none 0 0, .slice none 0 0, .slice none 0 0, .slice none 0 0, .slice none 0 0, .slice none 0 0, .slice none 0 0, .slice none 0 0, .slice none 0 0, .slice none 0 0, .slice none 0 0, .slice none 0 0, .slice none 0 0] hc3 (regs_size hR3.1) (by rw [hR3.1]; exact Nat.le_refl 27) hR3.regs.one ?_
      have hxf : Ext w (w3.setRow w.heap.size (seg #[.slice none 0 0, .slice none 0 0, .slice none 0 0, .slice none 0 0, .slice none 0 0, .slice none 0 0, .slice none 0 0, .slice none 0 0, .slice none 0 0, .slice none 0 0, .slice none 0 0, .slice none 0 0, .slice none 0 0, .slice none 0 0, .slice none 0 0, .slice none 0 0, .slice none 0 0, .slice none 0 0, .slice none 0 0, .slice none 0 0, .slice none 0 0, .slice none 0 0, .slice none 0 0, .slice none 0 0, .slice none 0 0, .slice none 0 0, .slice none 0 0] 0 ds)) := Ext.setRow (hxa.trans hx3) (Nat.le_refl _) _
      have hbf : Blk (w3.setRow w.heap.size (seg #[.slice none 0 0, .slice none 0 0, .slice none 0 0, .slice none 0 0, .slice none 0 0, .slice none 0 0, .slice none 0 0, .slice none 0 0, .slice none 0 0, .slice none 0 0, .slice none 0 0, .slice none 0 0, .slice none 0 0, .slice none 0 0, .slice none 0 0, .slice none 0 0, .slice none 0 0, .slice none 0 0, .slice none 0 0, .slice none 0 0, .slice none 0 0, .slice none 0 0, .slice none 0 0, .slice none 0 0, .slice none 0 0, .slice none 0 0, .slice none 0 0] 0 ds)) w.heap.size 30 (seg #[.slice none 0 0, .slice none 0 0, .slice none 0 0, .slice none 0 0, .slice none 0 0, .slice none 0 0, .slice none 0 0, .slice none 0 0, .slice none 0 0, .slice none 0 0, .slice none 0 0, .slice none 0 0, .slice none 0 0, .slice none 0 0, .slice none 0 0, .slice none 0 0, .slice none 0 0, .slice none 0 0, .slice none 0 0, .slice none 0 0, .slice none 0 0, .slice none 0 0, .slice none 0 0, .slice none 0 0, .slice none 0 0, .slice none 0 0, .slice none 0 0] 0 ds) := Blk.setRow hc3 _
      have hsz : w.heap.size < (w.drew.alloc (.cells #[.slice none 0 0, .slice none 0 0, .slice none 0 0, .slice none 0 0, .slice none 0 0, .slice none 0 0, .slice none 0 0, .slice none 0 0, .slice none 0 0, .slice none 0 0, .slice none 0 0, .slice none 0 0, .slice none 0 0, .slice none 0 0, .slice none 0 0, .slice none 0 0, .slice none 0 0, .slice none 0 0, .slice none 0 0, .slice none 0 0, .slice none 0 0, .slice none 0 0, .slice none 0 0, .slice none 0 0, .slice none 0 0, .slice none 0 0, .slice none 0 0] 30)).heap.size := hba.lt
      have hrf := hR3.setRow (g := w.heap.size) hsz (seg #[.slice none 0 0, .slice none 0 0, .slice none 0 0, .slice none 0 0, .slice none 0 0, .slice none 0 0, .slice none 0 0, .slice none 0 0, .slice none 0 0, .slice none 0 0, .slice none 0 0, .slice none 0 0, .slice none 0 0, .slice none 0 0, .slice none 0 0, .slice none 0 0, .slice none 0 0, .slice none 0 0, .slice none 0 0, .slice none 0 0, .slice none 0 0, .slice none 0 0, .slice none 0 0, .slice none 0 0, .slice none 0 0, .slice none 0 0, .slice none 0 0] 0 ds)
      have hdf : Blk (w3.setRow w.heap.size (seg #[.slice none 0 0, .slice none 0 0, .slice none 0 0, .slice none 0 0, .slice none 0 0, .slice none 0 0, .slice none 0 0, .slice none 0 0, .slice none 0 0, .slice none 0 0, .slice none 0 0, .slice none 0 0, .slice none 0 0, .slice none 0 0, .slice none 0 0, .slice none 0 0, .slice none 0 0, .slice none 0 0, .slice none 0 0, .slice none 0 0, .slice none 0 0, .slice none 0 0, .slice none 0 0, .slice none 0 0, .slice none 0 0, .slice none 0 0, .slice none 0 0] 0 ds)) g 57 cs := HB.out.ext hxf
      rw [seg_all (by rw [hR3.1]; rfl)] at hxf hbf hrf hdf ⊢
      have HF := Lib.hid (And.intro hbf (And.intro hrf hxf))
      refine hK.out _ _ ⟨hxf.cell x0, hxf.cell x30, hdf⟩ (fun hHeld4 => ?_)
      clear hK K hHeld3
      try simp only [List.getElem_toArray, List.getElem_cons_zero, List.getElem_cons_succ, Act.put, List.setIfInBounds_toArray, List.set_cons_zero, List.set_cons_succ]
      refine wpAnyH_take (i := 23) (v := (.int .i64 x)) rfl (by kernel_rfl) (by kernel_rfl) (by kernel_rfl) (fun _ _ _ h => h) (Or.inl ⟨by rfl, by (intro w hSw; obtain ⟨s0, s1, s2⟩ := hSw; go_simp)⟩) hHeld4 ?_
      try simp only [List.getElem_toArray, List.getElem_cons_zero, List.getElem_cons_succ, Act.put, List.setIfInBounds_toArray, List.set_cons_zero, List.set_cons_succ]
      refine wpAnyH_done (by kernel_rfl) ?_ _
      try go_wp2_with fail
      go_meet
      exact ⟨w.heap.size, ds, x, rs', rfl, rfl, Nat.le_refl _, Lib.hid HF.out.1, Lib.hid (RegsO.lower HF.out.2.1 (Nat.le_of_lt hsz)), Lib.hid hP3, Lib.hid HF.out.2.2⟩
  case rest =>
    obtain ⟨p, ds, x, rs', rfl, rfl, hp, HBp, HRO, HPR, HXc⟩ := hcut
    have HBg := Lib.hid (HB.out.ext HXc.out)
    have hxg := Lib.hid (ext_grows HXc.out (some g))
    clear x0 x30 hT2 HP HB
    by_cases hx0 : x = 0
    · subst hx0
      have HOk : Hid (∃ i m, regNo k2 = some (i, m) ∧ ¬ putBig rl i m ((l.drop f).take (t - f)) ∧ rs' = putF rl i m ((l.drop f).take (t - f))) := Lib.hid (by
        rcases HPR.out with h | ⟨_, h⟩
        · exact absurd rfl h.1
        · exact h)
      have hds := Lib.hid HRO.out.1
      have hone := Lib.hid HRO.out.regs.one
      go_wp2_with (first
        | (refine wpList_load_row rfl 30 (.tmp 7) rfl p rfl 30 ds (0, 0) _ HBp.out Try.underlying30 rfl (regs_size hds.out) ?_)
        | (refine wpList_store_at rfl 30 (.tmp 36) (.tmp 33) rfl g 36 ds rfl rfl 57 cs HBg.out (regs_size hds.out) (by rw [hds.out, HZ.out]; decide) hone.out ?_))
      go_ret
      exact ⟨0, rfl, grows_trans hxg.out (setRow_grown _ _ _), fun _ => rfl, fun _ => ⟨ds, rs', Blk.setRow HBg.out _, RegsO.setRow HRO.out hgw _, HOk.out⟩⟩
    · go_wp2_with fail
      go_ret
      exact ⟨x, rfl, hxg.out, fun h => by rcases HPR.out with h9 | h9; exact absurd h h9.2; exact h9.1, fun h => absurd h hx0⟩
end Go.Proofs.Ytmhgndjmcignjaa
