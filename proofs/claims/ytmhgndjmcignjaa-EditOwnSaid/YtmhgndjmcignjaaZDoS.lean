/-
  What a key stands for; which motion a key means.
-/
import Derived.Test.YtmhgndjmcignjaaZDoO

namespace Go.Proofs.Ytmhgndjmcignjaa
open Go.RowKit
set_option linter.unusedVariables false
set_option linter.unusedSimpArgs false

/-- The command that a key stands for. -/
def shortF (v : Int) : Option (Int × Int) :=
  if v = 120 then some (100, 108) else if v = 88 then some (100, 104) else if v = 115 then some (99, 108) else if v = 83 then some (99, 99) else if v = 67 then some (99, 36) else if v = 68 then some (100, 36) else if v = 89 then some (121, 121) else none

theorem blk_two (w : World) (t t' : TypeId) (cs cs' : Array Value) : Blk ((w.alloc (.cells cs t)).alloc (.cells cs' t')) (w.heap.size + 1) t' cs' := by
  have := Blk.new (w.alloc (.cells cs t)) t' cs'
  rwa [World.size_alloc] at this
set_option maxRecDepth 20000 in
set_option maxHeartbeats 4000000 in
theorem short_all {k1 k2 k4 k5 : Int} (w : World) : Calls Try.prog 28 #[.agg #[.int .i64 k1, .int .i64 k2, .int .i64 0, .int .i64 k4, .int .i64 k5]] w fun e w' => (∃ o v b, e = .returned (.tuple #[.agg #[.int .i64 k1, .int .i64 k2, .int .i64 o, .int .i64 v, .int .i64 k5], .bool b]) ∧ ((b = true ∧ shortF k4 = some (o, v)) ∨ (b = false ∧ shortF k4 = none ∧ o = 0 ∧ v = k4))) ∧ Ext w w' := by
  go_enter Try.func28, Try.ntmps28
  go_wp2_with fail
  · have hk : k4 = 120 := by simpa using ‹(k4 == 120) = true›
    subst hk
    refine bodyPost_ret (v := .tuple #[.agg #[.int .i64 k1, .int .i64 k2, .int .i64 100, .int .i64 108, .int .i64 k5], .bool true]) ?_ rfl ⟨⟨_, _, _, rfl, .inl ⟨rfl, by decide⟩⟩, (Ext.alloc _ _).to_alloc _⟩
    exact results_row_tmp rfl _ _ (w.heap.size + 1) 28 _ _ _ _ rfl rfl (blk_two _ _ _ _ _) Try.underlying28 rfl (by kernel_rfl)
  · have hk : k4 = 88 := by simpa using ‹(k4 == 88) = true›
    subst hk
    refine bodyPost_ret (v := .tuple #[.agg #[.int .i64 k1, .int .i64 k2, .int .i64 100, .int .i64 104, .int .i64 k5], .bool true]) ?_ rfl ⟨⟨_, _, _, rfl, .inl ⟨rfl, by decide⟩⟩, (Ext.alloc _ _).to_alloc _⟩
    exact results_row_tmp rfl _ _ (w.heap.size + 1) 28 _ _ _ _ rfl rfl (blk_two _ _ _ _ _) Try.underlying28 rfl (by kernel_rfl)
  · have hk : k4 = 115 := by simpa using ‹(k4 == 115) = true›
    subst hk
    refine bodyPost_ret (v := .tuple #[.agg #[.int .i64 k1, .int .i64 k2, .int .i64 99, .int .i64 108, .int .i64 k5], .bool true]) ?_ rfl ⟨⟨_, _, _, rfl, .inl ⟨rfl, by decide⟩⟩, (Ext.alloc _ _).to_alloc _⟩
    exact results_row_tmp rfl _ _ (w.heap.size + 1) 28 _ _ _ _ rfl rfl (blk_two _ _ _ _ _) Try.underlying28 rfl (by kernel_rfl)
  · have hk : k4 = 83 := by simpa using ‹(k4 == 83) = true›
    subst hk
    refine bodyPost_ret (v := .tuple #[.agg #[.int .i64 k1, .int .i64 k2, .int .i64 99, .int .i64 99, .int .i64 k5], .bool true]) ?_ rfl ⟨⟨_, _, _, rfl, .inl ⟨rfl, by decide⟩⟩, (Ext.alloc _ _).to_alloc _⟩
    exact results_row_tmp rfl _ _ (w.heap.size + 1) 28 _ _ _ _ rfl rfl (blk_two _ _ _ _ _) Try.underlying28 rfl (by kernel_rfl)
  · have hk : k4 = 67 := by simpa using ‹(k4 == 67) = true›
    subst hk
    refine bodyPost_ret (v := .tuple #[.agg #[.int .i64 k1, .int .i64 k2, .int .i64 99, .int .i64 36, .int .i64 k5], .bool true]) ?_ rfl ⟨⟨_, _, _, rfl, .inl ⟨rfl, by decide⟩⟩, (Ext.alloc _ _).to_alloc _⟩
    exact results_row_tmp rfl _ _ (w.heap.size + 1) 28 _ _ _ _ rfl rfl (blk_two _ _ _ _ _) Try.underlying28 rfl (by kernel_rfl)
  · have hk : k4 = 68 := by simpa using ‹(k4 == 68) = true›
    subst hk
    refine bodyPost_ret (v := .tuple #[.agg #[.int .i64 k1, .int .i64 k2, .int .i64 100, .int .i64 36, .int .i64 k5], .bool true]) ?_ rfl ⟨⟨_, _, _, rfl, .inl ⟨rfl, by decide⟩⟩, (Ext.alloc _ _).to_alloc _⟩
    exact results_row_tmp rfl _ _ (w.heap.size + 1) 28 _ _ _ _ rfl rfl (blk_two _ _ _ _ _) Try.underlying28 rfl (by kernel_rfl)
  · have hk : k4 = 89 := by simpa using ‹(k4 == 89) = true›
    subst hk
    refine bodyPost_ret (v := .tuple #[.agg #[.int .i64 k1, .int .i64 k2, .int .i64 121, .int .i64 121, .int .i64 k5], .bool true]) ?_ rfl ⟨⟨_, _, _, rfl, .inl ⟨rfl, by decide⟩⟩, (Ext.alloc _ _).to_alloc _⟩
    exact results_row_tmp rfl _ _ (w.heap.size + 1) 28 _ _ _ _ rfl rfl (blk_two _ _ _ _ _) Try.underlying28 rfl (by kernel_rfl)
  · refine bodyPost_ret (v := .tuple #[.agg #[.int .i64 k1, .int .i64 k2, .int .i64 0, .int .i64 k4, .int .i64 k5], .bool false]) ?_ rfl ⟨⟨_, _, _, rfl, .inr ⟨rfl, ?_, rfl, rfl⟩⟩, (Ext.alloc _ _).to_alloc _⟩
    · exact results_row_tmp rfl _ _ (w.heap.size + 1) 28 _ _ _ _ rfl rfl (blk_two _ _ _ _ _) Try.underlying28 rfl (by kernel_rfl)
    · unfold shortF
      simp_all
/-- The motion that a key means, with what is looked for then; none: there is nothing to look for again. -/
def foundF' (fk fa v arg : Int) : Option (Int × Int × Int × Int) :=
  if v = 102 ∨ v = 70 ∨ v = 116 ∨ v = 84 then some (v, arg, v, arg)
  else if v = 59 then (if fk = 0 then none else some (fk, fa, fk, fa))
  else if v = 44 then (if fk = 0 then none else some (bits .xor .i64 fk 32, fa, fk, fa))
  else some (v, arg, fk, fa)
theorem results_two_rows {P : Program} {fn : Func} {p q r : Tmp} {ty ty' : TypeId} (h : fn.results = #[.cell p ty, .cell q ty', .tmp r]) (tmps : Array Value) (w : World) (g g' : Nat) (t t' : TypeId) (cs cs' : Array Value) (fr fr' : Nat × Nat) (d d' : TypeDesc) (v : Value)
    (hp : tmps.getD p undef = .pointer (some ⟨g, 0, none⟩)) (hq : tmps.getD q undef = .pointer (some ⟨g', 0, none⟩)) (hr : tmps.getD r undef = v) (hg : w.heap[g]? = some (.cells cs t fr)) (hg' : w.heap[g']? = some (.cells cs' t' fr'))
    (hu : P.underlying ty = some d) (hd : (match d with | .struct _ | .array _ _ => true | _ => false) = true) (hi : (P.info? ty).map (·.size) = some cs.size)
    (hu' : P.underlying ty' = some d') (hd' : (match d' with | .struct _ | .array _ _ => true | _ => false) = true) (hi' : (P.info? ty').map (·.size) = some cs'.size) :
    (results fn tmps).run P w = .ok (.tuple #[.agg cs, .agg cs', v]) w := by
  have hp' : tmps[p]?.getD undef = .pointer (some ⟨g, 0, none⟩) := by simpa using hp
  have hq' : tmps[q]?.getD undef = .pointer (some ⟨g', 0, none⟩) := by simpa using hq
  have hr' : tmps[r]?.getD undef = v := by simpa using hr
  simp [results, h, hp', hq', hr', asAddr, run_loadVar_row w g t ty cs fr d hg hu hd hi, run_loadVar_row w g' t' ty' cs' fr' d' hg' hu' hd' hi']
theorem cells3 {w : World} {g t : Nat} {a b c : Value} (h : Blk w g t #[a, b, c]) : w.cell? ⟨g, 0, none⟩ = some a ∧ w.cell? ⟨g, 1, none⟩ = some b ∧ w.cell? ⟨g, 2, none⟩ = some c := ⟨h.cell 0, h.cell 1, h.cell 2⟩
theorem move_info : (Try.prog.info? 80).map (·.size) = some 3 := by kernel_rfl
theorem find_info : (Try.prog.info? 26).map (·.size) = some 2 := by kernel_rfl
theorem found_start (w : World) (fk fa k1 k2 k3 k4 k5 : Int) : ∃ W, W = (((((w.alloc (.cells #[.int .i64 fk, .int .i64 fa] 26)).alloc (.cells #[.int .i64 k1, .int .i64 k2, .int .i64 k3, .int .i64 k4, .int .i64 k5] 28)).alloc (.cells #[.int .i64 0, .int .i64 0, .int .i64 0] 80)).alloc (.cells #[.int .i64 0, .int .i64 0] 26)).alloc (.cells #[.int .i64 k4, .int .i64 k1, .int .i64 k5] 80)) ∧ Ext w W ∧
    Blk W (w.heap.size) 26 #[.int .i64 fk, .int .i64 fa] ∧ Blk W (w.heap.size + 1) 28 #[.int .i64 k1, .int .i64 k2, .int .i64 k3, .int .i64 k4, .int .i64 k5] ∧ Blk W (w.heap.size + 1 + 1) 80 #[.int .i64 0, .int .i64 0, .int .i64 0] ∧ Blk W (w.heap.size + 1 + 1 + 1) 26 #[.int .i64 0, .int .i64 0] ∧ Blk W (w.heap.size + 1 + 1 + 1 + 1) 80 #[.int .i64 k4, .int .i64 k1, .int .i64 k5] := by
  have h1 := Blk.new w 26 #[.int .i64 fk, .int .i64 fa]
  have x1 := Ext.alloc w (.cells #[.int .i64 fk, .int .i64 fa] 26)
  have z1 : (w.alloc (.cells #[.int .i64 fk, .int .i64 fa] 26)).heap.size = w.heap.size + 1 := by simp
  generalize w.alloc (.cells #[.int .i64 fk, .int .i64 fa] 26) = W1 at *
  have h2 := Blk.new W1 28 #[.int .i64 k1, .int .i64 k2, .int .i64 k3, .int .i64 k4, .int .i64 k5]
  have x2 := Ext.alloc W1 (.cells #[.int .i64 k1, .int .i64 k2, .int .i64 k3, .int .i64 k4, .int .i64 k5] 28)
  rw [z1] at h2
  have z2 : (W1.alloc (.cells #[.int .i64 k1, .int .i64 k2, .int .i64 k3, .int .i64 k4, .int .i64 k5] 28)).heap.size = w.heap.size + 1 + 1 := by simp [z1]
  generalize W1.alloc (.cells #[.int .i64 k1, .int .i64 k2, .int .i64 k3, .int .i64 k4, .int .i64 k5] 28) = W2 at *
  have h3 := Blk.new W2 80 #[.int .i64 0, .int .i64 0, .int .i64 0]
  have x3 := Ext.alloc W2 (.cells #[.int .i64 0, .int .i64 0, .int .i64 0] 80)
  rw [z2] at h3
  have z3 : (W2.alloc (.cells #[.int .i64 0, .int .i64 0, .int .i64 0] 80)).heap.size = w.heap.size + 1 + 1 + 1 := by simp [z2]
  generalize W2.alloc (.cells #[.int .i64 0, .int .i64 0, .int .i64 0] 80) = W3 at *
  have h4 := Blk.new W3 26 #[.int .i64 0, .int .i64 0]
  have x4 := Ext.alloc W3 (.cells #[.int .i64 0, .int .i64 0] 26)
  rw [z3] at h4
  have z4 : (W3.alloc (.cells #[.int .i64 0, .int .i64 0] 26)).heap.size = w.heap.size + 1 + 1 + 1 + 1 := by simp [z3]
  generalize W3.alloc (.cells #[.int .i64 0, .int .i64 0] 26) = W4 at *
  have h5 := Blk.new W4 80 #[.int .i64 k4, .int .i64 k1, .int .i64 k5]
  have x5 := Ext.alloc W4 (.cells #[.int .i64 k4, .int .i64 k1, .int .i64 k5] 80)
  rw [z4] at h5
  exact ⟨_, rfl, (((x1.trans x2).trans x3).trans x4).trans x5, Blk.ext h1 (((x2.trans x3).trans x4).trans x5), Blk.ext h2 ((x3.trans x4).trans x5), Blk.ext h3 (x4.trans x5), Blk.ext h4 x5, h5⟩
set_option maxRecDepth 20000 in
set_option maxHeartbeats 4000000 in
theorem found_all' {k1 k2 k3 k4 k5 fk fa : Int} (w : World) : Calls Try.prog 36 #[.agg #[.int .i64 fk, .int .i64 fa], .agg #[.int .i64 k1, .int .i64 k2, .int .i64 k3, .int .i64 k4, .int .i64 k5]] w fun e w' =>
    (∃ mk ma zk za er : Int, e = .returned (.tuple #[.agg #[.int .i64 mk, .int .i64 k1, .int .i64 ma], .agg #[.int .i64 zk, .int .i64 za], .int .i64 er]) ∧ ((er = 0 ∧ foundF' fk fa k4 k5 = some (mk, ma, zk, za)) ∨ (er = 5 ∧ foundF' fk fa k4 k5 = none))) ∧ Ext w w' := by
  obtain ⟨W0, hW, hx, hb2, hb3, hb4, hb5, hb7⟩ := found_start w fk fa k1 k2 k3 k4 k5
  have HX := Lib.hid hx
  have B2 := Lib.hid hb2
  have B3 := Lib.hid hb3
  have B4 := Lib.hid hb4
  have B5 := Lib.hid hb5
  have B7 := Lib.hid hb7
  have HW := Lib.hid hW
  clear hx hb2 hb3 hb4 hb5 hb7 hW
  go_enter Try.func36, Try.ntmps36
  go_upto_region 2 with fail
  have hw := HW.out
  change Code.wp _ _ _ _ (((((w.alloc (.cells #[.int .i64 fk, .int .i64 fa] 26)).alloc (.cells #[.int .i64 k1, .int .i64 k2, .int .i64 k3, .int .i64 k4, .int .i64 k5] 28)).alloc (.cells #[.int .i64 0, .int .i64 0, .int .i64 0] 80)).alloc (.cells #[.int .i64 0, .int .i64 0] 26)).alloc (.cells #[.int .i64 k4, .int .i64 k1, .int .i64 k5] 80))
  rw [← hw]
  clear hw HW
  obtain ⟨x0, x1⟩ := cells2L B2.out
  obtain ⟨y0, y1, y2, y3, y4⟩ := cells5 B3.out
  obtain ⟨z0, z1, z2⟩ := cells3 B7.out
  go_wp2_with fail
  · have hk : k4 = 102 := by simpa using ‹(k4 == 102) = true›
    have hSw : ∀ wx, Blk wx (w.heap.size + 1 + 1 + 1 + 1) 80 #[.int .i64 k4, .int .i64 k1, .int .i64 k5] → Blk wx (w.heap.size + 1) 28 #[.int .i64 k1, .int .i64 k2, .int .i64 k3, .int .i64 k4, .int .i64 k5] → wx.cell? ⟨w.heap.size + 1 + 1 + 1 + 1, 0, none⟩ = some (.int .i64 k4) ∧ wx.cell? ⟨w.heap.size + 1 + 1 + 1 + 1, 1, none⟩ = some (.int .i64 k1) ∧ wx.cell? ⟨w.heap.size + 1 + 1 + 1 + 1, 2, none⟩ = some (.int .i64 k5) ∧ wx.cell? ⟨w.heap.size + 1, 3, none⟩ = some (.int .i64 k4) ∧ wx.cell? ⟨w.heap.size + 1, 4, none⟩ = some (.int .i64 k5) := fun wx h7 h2 => ⟨(cells3 h7).1, (cells3 h7).2.1, (cells3 h7).2.2, h2.cell 3, h2.cell 4⟩
    have hS0 := Lib.hid (hSw _ (B7.out.ext (Ext.drew W0)) (B3.out.ext (Ext.drew W0)))
    have hS1 := Lib.hid (hSw _ (Blk.setRow_other (B7.out.ext (Ext.drew W0)) #[.int .i64 k4, .int .i64 k1, .int .i64 k5] (show w.heap.size + 1 + 1 + 1 + 1 ≠ w.heap.size + 1 + 1 by omega)) (Blk.setRow_other (B3.out.ext (Ext.drew W0)) #[.int .i64 k4, .int .i64 k1, .int .i64 k5] (show w.heap.size + 1 ≠ w.heap.size + 1 + 1 by omega)))
    have hS2 := Lib.hid (hSw _ (Blk.setRow_other (Blk.setRow_other (B7.out.ext (Ext.drew W0)) #[.int .i64 k4, .int .i64 k1, .int .i64 k5] (show w.heap.size + 1 + 1 + 1 + 1 ≠ w.heap.size + 1 + 1 by omega)) #[.int .i64 k4, .int .i64 k5] (show w.heap.size + 1 + 1 + 1 + 1 ≠ w.heap.size + 1 + 1 + 1 by omega)) (Blk.setRow_other (Blk.setRow_other (B3.out.ext (Ext.drew W0)) #[.int .i64 k4, .int .i64 k1, .int .i64 k5] (show w.heap.size + 1 ≠ w.heap.size + 1 + 1 by omega)) #[.int .i64 k4, .int .i64 k5] (show w.heap.size + 1 ≠ w.heap.size + 1 + 1 + 1 by omega)))
    clear hSw
    refine wp_region_held_drew (S := fun w' => w'.cell? ⟨w.heap.size + 1 + 1 + 1 + 1, 0, none⟩ = some (.int .i64 k4) ∧ w'.cell? ⟨w.heap.size + 1 + 1 + 1 + 1, 1, none⟩ = some (.int .i64 k1) ∧ w'.cell? ⟨w.heap.size + 1 + 1 + 1 + 1, 2, none⟩ = some (.int .i64 k5) ∧ w'.cell? ⟨w.heap.size + 1, 3, none⟩ = some (.int .i64 k4) ∧ w'.cell? ⟨w.heap.size + 1, 4, none⟩ = some (.int .i64 k5)) (by kernel_rfl) hS0.out (fun hHeld => ?_)
    refine wpAnyH_take (i := 0) (v := (.agg #[.int .i64 k4, .int .i64 k1, .int .i64 k5])) rfl (by kernel_rfl) (by kernel_rfl) (by kernel_rfl) (fun _ _ _ h => h) (Or.inl ⟨by rfl, by (intro w hSw; obtain ⟨s0, s1, s2, s3, s4⟩ := hSw; go_simp)⟩) hHeld ?_
    try simp only [List.getElem_toArray, List.getElem_cons_zero, List.getElem_cons_succ, Act.put, List.setIfInBounds_toArray, List.set_cons_zero, List.set_cons_succ]
    refine wpAnyH_take (i := 1) (v := (.pointer (some ⟨w.heap.size + 1, 3, none⟩))) rfl (by kernel_rfl) (by kernel_rfl) (by kernel_rfl) (fun _ _ _ h => h) (Or.inl ⟨by rfl, by (intro w hSw; obtain ⟨s0, s1, s2, s3, s4⟩ := hSw; go_simp)⟩) hHeld ?_
    try simp only [List.getElem_toArray, List.getElem_cons_zero, List.getElem_cons_succ, Act.put, List.setIfInBounds_toArray, List.set_cons_zero, List.set_cons_succ]
    refine wpAnyH_take (i := 2) (v := (.int .i64 k4)) rfl (by kernel_rfl) (by kernel_rfl) (by kernel_rfl) (fun _ _ _ h => h) (Or.inl ⟨by rfl, by (intro w hSw; obtain ⟨s0, s1, s2, s3, s4⟩ := hSw; go_simp)⟩) hHeld ?_
    try simp only [List.getElem_toArray, List.getElem_cons_zero, List.getElem_cons_succ, Act.put, List.setIfInBounds_toArray, List.set_cons_zero, List.set_cons_succ]
    refine wpAnyH_take (i := 3) (v := (.pointer (some ⟨w.heap.size + 1, 4, none⟩))) rfl (by kernel_rfl) (by kernel_rfl) (by kernel_rfl) (fun _ _ _ h => h) (Or.inl ⟨by rfl, by (intro w hSw; obtain ⟨s0, s1, s2, s3, s4⟩ := hSw; go_simp)⟩) hHeld ?_
    try simp only [List.getElem_toArray, List.getElem_cons_zero, List.getElem_cons_succ, Act.put, List.setIfInBounds_toArray, List.set_cons_zero, List.set_cons_succ]
    refine wpAnyH_take (i := 4) (v := (.int .i64 k5)) rfl (by kernel_rfl) (by kernel_rfl) (by kernel_rfl) (fun _ _ _ h => h) (Or.inl ⟨by rfl, by (intro w hSw; obtain ⟨s0, s1, s2, s3, s4⟩ := hSw; go_simp)⟩) hHeld ?_
    try simp only [List.getElem_toArray, List.getElem_cons_zero, List.getElem_cons_succ, Act.put, List.setIfInBounds_toArray, List.set_cons_zero, List.set_cons_succ]
    refine wpAnyH_take (i := 5) (v := (.agg #[.int .i64 k4, .int .i64 k5])) rfl (by kernel_rfl) (by kernel_rfl) (by kernel_rfl) (fun _ _ _ h => h) (Or.inl ⟨by rfl, by (intro w hSw; obtain ⟨s0, s1, s2, s3, s4⟩ := hSw; go_simp)⟩) hHeld ?_
    try simp only [List.getElem_toArray, List.getElem_cons_zero, List.getElem_cons_succ, Act.put, List.setIfInBounds_toArray, List.set_cons_zero, List.set_cons_succ]
    refine wpAnyH_ready (rs := [6]) (by kernel_rfl) (by simp) ?_
    refine AllReadyH.cons rfl (fun K hK => ?_) AllReadyH.nil
    refine step_store_at rfl 80 (.tmp 4) (.tmp 22) rfl (w.heap.size + 1 + 1) 0 #[.int .i64 k4, .int .i64 k1, .int .i64 k5] rfl rfl 80 #[.int .i64 0, .int .i64 0, .int .i64 0] (B4.out.ext (Ext.drew _)) move_info (Nat.le_refl _) (by simp [Value.oneCell']) ?_
    refine hK.out _ _ hS1.out (fun hHeld2 => ?_)
    clear hK K hHeld
    try simp only [List.getElem_toArray, List.getElem_cons_zero, List.getElem_cons_succ, Act.put, List.setIfInBounds_toArray, List.set_cons_zero, List.set_cons_succ]
    refine wpAnyH_ready (rs := [7]) (by kernel_rfl) (by simp) ?_
    refine AllReadyH.cons rfl (fun K hK => ?_) AllReadyH.nil
    refine step_store_at rfl 26 (.tmp 5) (.tmp 27) rfl (w.heap.size + 1 + 1 + 1) 0 #[.int .i64 k4, .int .i64 k5] rfl rfl 26 #[.int .i64 0, .int .i64 0] (Blk.setRow_other (B5.out.ext (Ext.drew _)) _ (by omega)) find_info (Nat.le_refl _) (by simp [Value.oneCell']) ?_
    refine hK.out _ _ hS2.out (fun hHeld3 => ?_)
    clear hK K hHeld2
    try simp only [List.getElem_toArray, List.getElem_cons_zero, List.getElem_cons_succ, Act.put, List.setIfInBounds_toArray, List.set_cons_zero, List.set_cons_succ]
    refine wpAnyH_take (i := 8) (v := (.int .i64 0)) rfl (by kernel_rfl) (by kernel_rfl) (by kernel_rfl) (fun _ _ _ h => h) (Or.inl ⟨by rfl, by (intro w hSw; obtain ⟨s0, s1, s2, s3, s4⟩ := hSw; go_simp)⟩) hHeld3 ?_
    try simp only [List.getElem_toArray, List.getElem_cons_zero, List.getElem_cons_succ, Act.put, List.setIfInBounds_toArray, List.set_cons_zero, List.set_cons_succ]
    refine wpAnyH_done (by kernel_rfl) ?_ _
    go_wp2_with fail
    refine bodyPost_ret (v := .tuple #[.agg #[.int .i64 k4, .int .i64 k1, .int .i64 k5], .agg #[.int .i64 k4, .int .i64 k5], .int .i64 0]) ?_ rfl ⟨⟨_, _, _, _, _, rfl, .inl ⟨rfl, by subst hk; rfl⟩⟩, Ext.setRow (Ext.setRow (HX.out.trans (Ext.drew _)) (by omega) _) (by omega) _⟩
    exact results_two_rows rfl _ _ (w.heap.size + 1 + 1) (w.heap.size + 1 + 1 + 1) 80 26 _ _ _ _ _ _ _ rfl rfl rfl (Blk.setRow_other (Blk.setRow (B4.out.ext (Ext.drew _)) _) _ (by omega)) (Blk.setRow (Blk.setRow_other (B5.out.ext (Ext.drew _)) _ (by omega)) _) Try.underlying80 rfl move_info Try.underlying26 rfl find_info
  · have hk : k4 = 70 := by simpa using ‹(k4 == 70) = true›
    have hSw : ∀ wx, Blk wx (w.heap.size + 1 + 1 + 1 + 1) 80 #[.int .i64 k4, .int .i64 k1, .int .i64 k5] → Blk wx (w.heap.size + 1) 28 #[.int .i64 k1, .int .i64 k2, .int .i64 k3, .int .i64 k4, .int .i64 k5] → wx.cell? ⟨w.heap.size + 1 + 1 + 1 + 1, 0, none⟩ = some (.int .i64 k4) ∧ wx.cell? ⟨w.heap.size + 1 + 1 + 1 + 1, 1, none⟩ = some (.int .i64 k1) ∧ wx.cell? ⟨w.heap.size + 1 + 1 + 1 + 1, 2, none⟩ = some (.int .i64 k5) ∧ wx.cell? ⟨w.heap.size + 1, 3, none⟩ = some (.int .i64 k4) ∧ wx.cell? ⟨w.heap.size + 1, 4, none⟩ = some (.int .i64 k5) := fun wx h7 h2 => ⟨(cells3 h7).1, (cells3 h7).2.1, (cells3 h7).2.2, h2.cell 3, h2.cell 4⟩
    have hS0 := Lib.hid (hSw _ (B7.out.ext (Ext.drew W0)) (B3.out.ext (Ext.drew W0)))
    have hS1 := Lib.hid (hSw _ (Blk.setRow_other (B7.out.ext (Ext.drew W0)) #[.int .i64 k4, .int .i64 k1, .int .i64 k5] (show w.heap.size + 1 + 1 + 1 + 1 ≠ w.heap.size + 1 + 1 by omega)) (Blk.setRow_other (B3.out.ext (Ext.drew W0)) #[.int .i64 k4, .int .i64 k1, .int .i64 k5] (show w.heap.size + 1 ≠ w.heap.size + 1 + 1 by omega)))
    have hS2 := Lib.hid (hSw _ (Blk.setRow_other (Blk.setRow_other (B7.out.ext (Ext.drew W0)) #[.int .i64 k4, .int .i64 k1, .int .i64 k5] (show w.heap.size + 1 + 1 + 1 + 1 ≠ w.heap.size + 1 + 1 by omega)) #[.int .i64 k4, .int .i64 k5] (show w.heap.size + 1 + 1 + 1 + 1 ≠ w.heap.size + 1 + 1 + 1 by omega)) (Blk.setRow_other (Blk.setRow_other (B3.out.ext (Ext.drew W0)) #[.int .i64 k4, .int .i64 k1, .int .i64 k5] (show w.heap.size + 1 ≠ w.heap.size + 1 + 1 by omega)) #[.int .i64 k4, .int .i64 k5] (show w.heap.size + 1 ≠ w.heap.size + 1 + 1 + 1 by omega)))
    clear hSw
    refine wp_region_held_drew (S := fun w' => w'.cell? ⟨w.heap.size + 1 + 1 + 1 + 1, 0, none⟩ = some (.int .i64 k4) ∧ w'.cell? ⟨w.heap.size + 1 + 1 + 1 + 1, 1, none⟩ = some (.int .i64 k1) ∧ w'.cell? ⟨w.heap.size + 1 + 1 + 1 + 1, 2, none⟩ = some (.int .i64 k5) ∧ w'.cell? ⟨w.heap.size + 1, 3, none⟩ = some (.int .i64 k4) ∧ w'.cell? ⟨w.heap.size + 1, 4, none⟩ = some (.int .i64 k5)) (by kernel_rfl) hS0.out (fun hHeld => ?_)
    refine wpAnyH_take (i := 0) (v := (.agg #[.int .i64 k4, .int .i64 k1, .int .i64 k5])) rfl (by kernel_rfl) (by kernel_rfl) (by kernel_rfl) (fun _ _ _ h => h) (Or.inl ⟨by rfl, by (intro w hSw; obtain ⟨s0, s1, s2, s3, s4⟩ := hSw; go_simp)⟩) hHeld ?_
    try simp only [List.getElem_toArray, List.getElem_cons_zero, List.getElem_cons_succ, Act.put, List.setIfInBounds_toArray, List.set_cons_zero, List.set_cons_succ]
    refine wpAnyH_take (i := 1) (v := (.pointer (some ⟨w.heap.size + 1, 3, none⟩))) rfl (by kernel_rfl) (by kernel_rfl) (by kernel_rfl) (fun _ _ _ h => h) (Or.inl ⟨by rfl, by (intro w hSw; obtain ⟨s0, s1, s2, s3, s4⟩ := hSw; go_simp)⟩) hHeld ?_
    try simp only [List.getElem_toArray, List.getElem_cons_zero, List.getElem_cons_succ, Act.put, List.setIfInBounds_toArray, List.set_cons_zero, List.set_cons_succ]
    refine wpAnyH_take (i := 2) (v := (.int .i64 k4)) rfl (by kernel_rfl) (by kernel_rfl) (by kernel_rfl) (fun _ _ _ h => h) (Or.inl ⟨by rfl, by (intro w hSw; obtain ⟨s0, s1, s2, s3, s4⟩ := hSw; go_simp)⟩) hHeld ?_
    try simp only [List.getElem_toArray, List.getElem_cons_zero, List.getElem_cons_succ, Act.put, List.setIfInBounds_toArray, List.set_cons_zero, List.set_cons_succ]
    refine wpAnyH_take (i := 3) (v := (.pointer (some ⟨w.heap.size + 1, 4, none⟩))) rfl (by kernel_rfl) (by kernel_rfl) (by kernel_rfl) (fun _ _ _ h => h) (Or.inl ⟨by rfl, by (intro w hSw; obtain ⟨s0, s1, s2, s3, s4⟩ := hSw; go_simp)⟩) hHeld ?_
    try simp only [List.getElem_toArray, List.getElem_cons_zero, List.getElem_cons_succ, Act.put, List.setIfInBounds_toArray, List.set_cons_zero, List.set_cons_succ]
    refine wpAnyH_take (i := 4) (v := (.int .i64 k5)) rfl (by kernel_rfl) (by kernel_rfl) (by kernel_rfl) (fun _ _ _ h => h) (Or.inl ⟨by rfl, by (intro w hSw; obtain ⟨s0, s1, s2, s3, s4⟩ := hSw; go_simp)⟩) hHeld ?_
    try simp only [List.getElem_toArray, List.getElem_cons_zero, List.getElem_cons_succ, Act.put, List.setIfInBounds_toArray, List.set_cons_zero, List.set_cons_succ]
    refine wpAnyH_take (i := 5) (v := (.agg #[.int .i64 k4, .int .i64 k5])) rfl (by kernel_rfl) (by kernel_rfl) (by kernel_rfl) (fun _ _ _ h => h) (Or.inl ⟨by rfl, by (intro w hSw; obtain ⟨s0, s1, s2, s3, s4⟩ := hSw; go_simp)⟩) hHeld ?_
    try simp only [List.getElem_toArray, List.getElem_cons_zero, List.getElem_cons_succ, Act.put, List.setIfInBounds_toArray, List.set_cons_zero, List.set_cons_succ]
    refine wpAnyH_ready (rs := [6]) (by kernel_rfl) (by simp) ?_
    refine AllReadyH.cons rfl (fun K hK => ?_) AllReadyH.nil
    refine step_store_at rfl 80 (.tmp 4) (.tmp 22) rfl (w.heap.size + 1 + 1) 0 #[.int .i64 k4, .int .i64 k1, .int .i64 k5] rfl rfl 80 #[.int .i64 0, .int .i64 0, .int .i64 0] (B4.out.ext (Ext.drew _)) move_info (Nat.le_refl _) (by simp [Value.oneCell']) ?_
    refine hK.out _ _ hS1.out (fun hHeld2 => ?_)
    clear hK K hHeld
    try simp only [List.getElem_toArray, List.getElem_cons_zero, List.getElem_cons_succ, Act.put, List.setIfInBounds_toArray, List.set_cons_zero, List.set_cons_succ]
    refine wpAnyH_ready (rs := [7]) (by kernel_rfl) (by simp) ?_
    refine AllReadyH.cons rfl (fun K hK => ?_) AllReadyH.nil
    refine step_store_at rfl 26 (.tmp 5) (.tmp 27) rfl (w.heap.size + 1 + 1 + 1) 0 #[.int .i64 k4, .int .i64 k5] rfl rfl 26 #[.int .i64 0, .int .i64 0] (Blk.setRow_other (B5.out.ext (Ext.drew _)) _ (by omega)) find_info (Nat.le_refl _) (by simp [Value.oneCell']) ?_
    refine hK.out _ _ hS2.out (fun hHeld3 => ?_)
    clear hK K hHeld2
    try simp only [List.getElem_toArray, List.getElem_cons_zero, List.getElem_cons_succ, Act.put, List.setIfInBounds_toArray, List.set_cons_zero, List.set_cons_succ]
    refine wpAnyH_take (i := 8) (v := (.int .i64 0)) rfl (by kernel_rfl) (by kernel_rfl) (by kernel_rfl) (fun _ _ _ h => h) (Or.inl ⟨by rfl, by (intro w hSw; obtain ⟨s0, s1, s2, s3, s4⟩ := hSw; go_simp)⟩) hHeld3 ?_
    try simp only [List.getElem_toArray, List.getElem_cons_zero, List.getElem_cons_succ, Act.put, List.setIfInBounds_toArray, List.set_cons_zero, List.set_cons_succ]
    refine wpAnyH_done (by kernel_rfl) ?_ _
    go_wp2_with fail
    refine bodyPost_ret (v := .tuple #[.agg #[.int .i64 k4, .int .i64 k1, .int .i64 k5], .agg #[.int .i64 k4, .int .i64 k5], .int .i64 0]) ?_ rfl ⟨⟨_, _, _, _, _, rfl, .inl ⟨rfl, by subst hk; rfl⟩⟩, Ext.setRow (Ext.setRow (HX.out.trans (Ext.drew _)) (by omega) _) (by omega) _⟩
    exact results_two_rows rfl _ _ (w.heap.size + 1 + 1) (w.heap.size + 1 + 1 + 1) 80 26 _ _ _ _ _ _ _ rfl rfl rfl (Blk.setRow_other (Blk.setRow (B4.out.ext (Ext.drew _)) _) _ (by omega)) (Blk.setRow (Blk.setRow_other (B5.out.ext (Ext.drew _)) _ (by omega)) _) Try.underlying80 rfl move_info Try.underlying26 rfl find_info
  · have hk : k4 = 116 := by simpa using ‹(k4 == 116) = true›
    have hSw : ∀ wx, Blk wx (w.heap.size + 1 + 1 + 1 + 1) 80 #[.int .i64 k4, .int .i64 k1, .int .i64 k5] → Blk wx (w.heap.size + 1) 28 #[.int .i64 k1, .int .i64 k2, .int .i64 k3, .int .i64 k4, .int .i64 k5] → wx.cell? ⟨w.heap.size + 1 + 1 + 1 + 1, 0, none⟩ = some (.int .i64 k4) ∧ wx.cell? ⟨w.heap.size + 1 + 1 + 1 + 1, 1, none⟩ = some (.int .i64 k1) ∧ wx.cell? ⟨w.heap.size + 1 + 1 + 1 + 1, 2, none⟩ = some (.int .i64 k5) ∧ wx.cell? ⟨w.heap.size + 1, 3, none⟩ = some (.int .i64 k4) ∧ wx.cell? ⟨w.heap.size + 1, 4, none⟩ = some (.int .i64 k5) := fun wx h7 h2 => ⟨(cells3 h7).1, (cells3 h7).2.1, (cells3 h7).2.2, h2.cell 3, h2.cell 4⟩
    have hS0 := Lib.hid (hSw _ (B7.out.ext (Ext.drew W0)) (B3.out.ext (Ext.drew W0)))
    have hS1 := Lib.hid (hSw _ (Blk.setRow_other (B7.out.ext (Ext.drew W0)) #[.int .i64 k4, .int .i64 k1, .int .i64 k5] (show w.heap.size + 1 + 1 + 1 + 1 ≠ w.heap.size + 1 + 1 by omega)) (Blk.setRow_other (B3.out.ext (Ext.drew W0)) #[.int .i64 k4, .int .i64 k1, .int .i64 k5] (show w.heap.size + 1 ≠ w.heap.size + 1 + 1 by omega)))
    have hS2 := Lib.hid (hSw _ (Blk.setRow_other (Blk.setRow_other (B7.out.ext (Ext.drew W0)) #[.int .i64 k4, .int .i64 k1, .int .i64 k5] (show w.heap.size + 1 + 1 + 1 + 1 ≠ w.heap.size + 1 + 1 by omega)) #[.int .i64 k4, .int .i64 k5] (show w.heap.size + 1 + 1 + 1 + 1 ≠ w.heap.size + 1 + 1 + 1 by omega)) (Blk.setRow_other (Blk.setRow_other (B3.out.ext (Ext.drew W0)) #[.int .i64 k4, .int .i64 k1, .int .i64 k5] (show w.heap.size + 1 ≠ w.heap.size + 1 + 1 by omega)) #[.int .i64 k4, .int .i64 k5] (show w.heap.size + 1 ≠ w.heap.size + 1 + 1 + 1 by omega)))
    clear hSw
    refine wp_region_held_drew (S := fun w' => w'.cell? ⟨w.heap.size + 1 + 1 + 1 + 1, 0, none⟩ = some (.int .i64 k4) ∧ w'.cell? ⟨w.heap.size + 1 + 1 + 1 + 1, 1, none⟩ = some (.int .i64 k1) ∧ w'.cell? ⟨w.heap.size + 1 + 1 + 1 + 1, 2, none⟩ = some (.int .i64 k5) ∧ w'.cell? ⟨w.heap.size + 1, 3, none⟩ = some (.int .i64 k4) ∧ w'.cell? ⟨w.heap.size + 1, 4, none⟩ = some (.int .i64 k5)) (by kernel_rfl) hS0.out (fun hHeld => ?_)
    refine wpAnyH_take (i := 0) (v := (.agg #[.int .i64 k4, .int .i64 k1, .int .i64 k5])) rfl (by kernel_rfl) (by kernel_rfl) (by kernel_rfl) (fun _ _ _ h => h) (Or.inl ⟨by rfl, by (intro w hSw; obtain ⟨s0, s1, s2, s3, s4⟩ := hSw; go_simp)⟩) hHeld ?_
    try simp only [List.getElem_toArray, List.getElem_cons_zero, List.getElem_cons_succ, Act.put, List.setIfInBounds_toArray, List.set_cons_zero, List.set_cons_succ]
    refine wpAnyH_take (i := 1) (v := (.pointer (some ⟨w.heap.size + 1, 3, none⟩))) rfl (by kernel_rfl) (by kernel_rfl) (by kernel_rfl) (fun _ _ _ h => h) (Or.inl ⟨by rfl, by (intro w hSw; obtain ⟨s0, s1, s2, s3, s4⟩ := hSw; go_simp)⟩) hHeld ?_
    try simp only [List.getElem_toArray, List.getElem_cons_zero, List.getElem_cons_succ, Act.put, List.setIfInBounds_toArray, List.set_cons_zero, List.set_cons_succ]
    refine wpAnyH_take (i := 2) (v := (.int .i64 k4)) rfl (by kernel_rfl) (by kernel_rfl) (by kernel_rfl) (fun _ _ _ h => h) (Or.inl ⟨by rfl, by (intro w hSw; obtain ⟨s0, s1, s2, s3, s4⟩ := hSw; go_simp)⟩) hHeld ?_
    try simp only [List.getElem_toArray, List.getElem_cons_zero, List.getElem_cons_succ, Act.put, List.setIfInBounds_toArray, List.set_cons_zero, List.set_cons_succ]
    refine wpAnyH_take (i := 3) (v := (.pointer (some ⟨w.heap.size + 1, 4, none⟩))) rfl (by kernel_rfl) (by kernel_rfl) (by kernel_rfl) (fun _ _ _ h => h) (Or.inl ⟨by rfl, by (intro w hSw; obtain ⟨s0, s1, s2, s3, s4⟩ := hSw; go_simp)⟩) hHeld ?_
    try simp only [List.getElem_toArray, List.getElem_cons_zero, List.getElem_cons_succ, Act.put, List.setIfInBounds_toArray, List.set_cons_zero, List.set_cons_succ]
    refine wpAnyH_take (i := 4) (v := (.int .i64 k5)) rfl (by kernel_rfl) (by kernel_rfl) (by kernel_rfl) (fun _ _ _ h => h) (Or.inl ⟨by rfl, by (intro w hSw; obtain ⟨s0, s1, s2, s3, s4⟩ := hSw; go_simp)⟩) hHeld ?_
    try simp only [List.getElem_toArray, List.getElem_cons_zero, List.getElem_cons_succ, Act.put, List.setIfInBounds_toArray, List.set_cons_zero, List.set_cons_succ]
    refine wpAnyH_take (i := 5) (v := (.agg #[.int .i64 k4, .int .i64 k5])) rfl (by kernel_rfl) (by kernel_rfl) (by kernel_rfl) (fun _ _ _ h => h) (Or.inl ⟨by rfl, by (intro w hSw; obtain ⟨s0, s1, s2, s3, s4⟩ := hSw; go_simp)⟩) hHeld ?_
    try simp only [List.getElem_toArray, List.getElem_cons_zero, List.getElem_cons_succ, Act.put, List.setIfInBounds_toArray, List.set_cons_zero, List.set_cons_succ]
    refine wpAnyH_ready (rs := [6]) (by kernel_rfl) (by simp) ?_
    refine AllReadyH.cons rfl (fun K hK => ?_) AllReadyH.nil
    refine step_store_at rfl 80 (.tmp 4) (.tmp 22) rfl (w.heap.size + 1 + 1) 0 #[.int .i64 k4, .int .i64 k1, .int .i64 k5] rfl rfl 80 #[.int .i64 0, .int .i64 0, .int .i64 0] (B4.out.ext (Ext.drew _)) move_info (Nat.le_refl _) (by simp [Value.oneCell']) ?_
    refine hK.out _ _ hS1.out (fun hHeld2 => ?_)
    clear hK K hHeld
    try simp only [List.getElem_toArray, List.getElem_cons_zero, List.getElem_cons_succ, Act.put, List.setIfInBounds_toArray, List.set_cons_zero, List.set_cons_succ]
    refine wpAnyH_ready (rs := [7]) (by kernel_rfl) (by simp) ?_
    refine AllReadyH.cons rfl (fun K hK => ?_) AllReadyH.nil
    refine step_store_at rfl 26 (.tmp 5) (.tmp 27) rfl (w.heap.size + 1 + 1 + 1) 0 #[.int .i64 k4, .int .i64 k5] rfl rfl 26 #[.int .i64 0, .int .i64 0] (Blk.setRow_other (B5.out.ext (Ext.drew _)) _ (by omega)) find_info (Nat.le_refl _) (by simp [Value.oneCell']) ?_
    refine hK.out _ _ hS2.out (fun hHeld3 => ?_)
    clear hK K hHeld2
    try simp only [List.getElem_toArray, List.getElem_cons_zero, List.getElem_cons_succ, Act.put, List.setIfInBounds_toArray, List.set_cons_zero, List.set_cons_succ]
    refine wpAnyH_take (i := 8) (v := (.int .i64 0)) rfl (by kernel_rfl) (by kernel_rfl) (by kernel_rfl) (fun _ _ _ h => h) (Or.inl ⟨by rfl, by (intro w hSw; obtain ⟨s0, s1, s2, s3, s4⟩ := hSw; go_simp)⟩) hHeld3 ?_
    try simp only [List.getElem_toArray, List.getElem_cons_zero, List.getElem_cons_succ, Act.put, List.setIfInBounds_toArray, List.set_cons_zero, List.set_cons_succ]
    refine wpAnyH_done (by kernel_rfl) ?_ _
    go_wp2_with fail
    refine bodyPost_ret (v := .tuple #[.agg #[.int .i64 k4, .int .i64 k1, .int .i64 k5], .agg #[.int .i64 k4, .int .i64 k5], .int .i64 0]) ?_ rfl ⟨⟨_, _, _, _, _, rfl, .inl ⟨rfl, by subst hk; rfl⟩⟩, Ext.setRow (Ext.setRow (HX.out.trans (Ext.drew _)) (by omega) _) (by omega) _⟩
    exact results_two_rows rfl _ _ (w.heap.size + 1 + 1) (w.heap.size + 1 + 1 + 1) 80 26 _ _ _ _ _ _ _ rfl rfl rfl (Blk.setRow_other (Blk.setRow (B4.out.ext (Ext.drew _)) _) _ (by omega)) (Blk.setRow (Blk.setRow_other (B5.out.ext (Ext.drew _)) _ (by omega)) _) Try.underlying80 rfl move_info Try.underlying26 rfl find_info
  · have hk : k4 = 84 := by simpa using ‹(k4 == 84) = true›
    have hSw : ∀ wx, Blk wx (w.heap.size + 1 + 1 + 1 + 1) 80 #[.int .i64 k4, .int .i64 k1, .int .i64 k5] → Blk wx (w.heap.size + 1) 28 #[.int .i64 k1, .int .i64 k2, .int .i64 k3, .int .i64 k4, .int .i64 k5] → wx.cell? ⟨w.heap.size + 1 + 1 + 1 + 1, 0, none⟩ = some (.int .i64 k4) ∧ wx.cell? ⟨w.heap.size + 1 + 1 + 1 + 1, 1, none⟩ = some (.int .i64 k1) ∧ wx.cell? ⟨w.heap.size + 1 + 1 + 1 + 1, 2, none⟩ = some (.int .i64 k5) ∧ wx.cell? ⟨w.heap.size + 1, 3, none⟩ = some (.int .i64 k4) ∧ wx.cell? ⟨w.heap.size + 1, 4, none⟩ = some (.int .i64 k5) := fun wx h7 h2 => ⟨(cells3 h7).1, (cells3 h7).2.1, (cells3 h7).2.2, h2.cell 3, h2.cell 4⟩
    have hS0 := Lib.hid (hSw _ (B7.out.ext (Ext.drew W0)) (B3.out.ext (Ext.drew W0)))
    have hS1 := Lib.hid (hSw _ (Blk.setRow_other (B7.out.ext (Ext.drew W0)) #[.int .i64 k4, .int .i64 k1, .int .i64 k5] (show w.heap.size + 1 + 1 + 1 + 1 ≠ w.heap.size + 1 + 1 by omega)) (Blk.setRow_other (B3.out.ext (Ext.drew W0)) #[.int .i64 k4, .int .i64 k1, .int .i64 k5] (show w.heap.size + 1 ≠ w.heap.size + 1 + 1 by omega)))
    have hS2 := Lib.hid (hSw _ (Blk.setRow_other (Blk.setRow_other (B7.out.ext (Ext.drew W0)) #[.int .i64 k4, .int .i64 k1, .int .i64 k5] (show w.heap.size + 1 + 1 + 1 + 1 ≠ w.heap.size + 1 + 1 by omega)) #[.int .i64 k4, .int .i64 k5] (show w.heap.size + 1 + 1 + 1 + 1 ≠ w.heap.size + 1 + 1 + 1 by omega)) (Blk.setRow_other (Blk.setRow_other (B3.out.ext (Ext.drew W0)) #[.int .i64 k4, .int .i64 k1, .int .i64 k5] (show w.heap.size + 1 ≠ w.heap.size + 1 + 1 by omega)) #[.int .i64 k4, .int .i64 k5] (show w.heap.size + 1 ≠ w.heap.size + 1 + 1 + 1 by omega)))
    clear hSw
    refine wp_region_held_drew (S := fun w' => w'.cell? ⟨w.heap.size + 1 + 1 + 1 + 1, 0, none⟩ = some (.int .i64 k4) ∧ w'.cell? ⟨w.heap.size + 1 + 1 + 1 + 1, 1, none⟩ = some (.int .i64 k1) ∧ w'.cell? ⟨w.heap.size + 1 + 1 + 1 + 1, 2, none⟩ = some (.int .i64 k5) ∧ w'.cell? ⟨w.heap.size + 1, 3, none⟩ = some (.int .i64 k4) ∧ w'.cell? ⟨w.heap.size + 1, 4, none⟩ = some (.int .i64 k5)) (by kernel_rfl) hS0.out (fun hHeld => ?_)
    refine wpAnyH_take (i := 0) (v := (.agg #[.int .i64 k4, .int .i64 k1, .int .i64 k5])) rfl (by kernel_rfl) (by kernel_rfl) (by kernel_rfl) (fun _ _ _ h => h) (Or.inl ⟨by rfl, by (intro w hSw; obtain ⟨s0, s1, s2, s3, s4⟩ := hSw; go_simp)⟩) hHeld ?_
    try simp only [List.getElem_toArray, List.getElem_cons_zero, List.getElem_cons_succ, Act.put, List.setIfInBounds_toArray, List.set_cons_zero, List.set_cons_succ]
    refine wpAnyH_take (i := 1) (v := (.pointer (some ⟨w.heap.size + 1, 3, none⟩))) rfl (by kernel_rfl) (by kernel_rfl) (by kernel_rfl) (fun _ _ _ h => h) (Or.inl ⟨by rfl, by (intro w hSw; obtain ⟨s0, s1, s2, s3, s4⟩ := hSw; go_simp)⟩) hHeld ?_
    try simp only [List.getElem_toArray, List.getElem_cons_zero, List.getElem_cons_succ, Act.put, List.setIfInBounds_toArray, List.set_cons_zero, List.set_cons_succ]
    refine wpAnyH_take (i := 2) (v := (.int .i64 k4)) rfl (by kernel_rfl) (by kernel_rfl) (by kernel_rfl) (fun _ _ _ h => h) (Or.inl ⟨by rfl, by (intro w hSw; obtain ⟨s0, s1, s2, s3, s4⟩ := hSw; go_simp)⟩) hHeld ?_
    try simp only [List.getElem_toArray, List.getElem_cons_zero, List.getElem_cons_succ, Act.put, List.setIfInBounds_toArray, List.set_cons_zero, List.set_cons_succ]
    refine wpAnyH_take (i := 3) (v := (.pointer (some ⟨w.heap.size + 1, 4, none⟩))) rfl (by kernel_rfl) (by kernel_rfl) (by kernel_rfl) (fun _ _ _ h => h) (Or.inl ⟨by rfl, by (intro w hSw; obtain ⟨s0, s1, s2, s3, s4⟩ := hSw; go_simp)⟩) hHeld ?_
    try simp only [List.getElem_toArray, List.getElem_cons_zero, List.getElem_cons_succ, Act.put, List.setIfInBounds_toArray, List.set_cons_zero, List.set_cons_succ]
    refine wpAnyH_take (i := 4) (v := (.int .i64 k5)) rfl (by kernel_rfl) (by kernel_rfl) (by kernel_rfl) (fun _ _ _ h => h) (Or.inl ⟨by rfl, by (intro w hSw; obtain ⟨s0, s1, s2, s3, s4⟩ := hSw; go_simp)⟩) hHeld ?_
    try simp only [List.getElem_toArray, List.getElem_cons_zero, List.getElem_cons_succ, Act.put, List.setIfInBounds_toArray, List.set_cons_zero, List.set_cons_succ]
    refine wpAnyH_take (i := 5) (v := (.agg #[.int .i64 k4, .int .i64 k5])) rfl (by kernel_rfl) (by kernel_rfl) (by kernel_rfl) (fun _ _ _ h => h) (Or.inl ⟨by rfl, by (intro w hSw; obtain ⟨s0, s1, s2, s3, s4⟩ := hSw; go_simp)⟩) hHeld ?_
    try simp only [List.getElem_toArray, List.getElem_cons_zero, List.getElem_cons_succ, Act.put, List.setIfInBounds_toArray, List.set_cons_zero, List.set_cons_succ]
    refine wpAnyH_ready (rs := [6]) (by kernel_rfl) (by simp) ?_
    refine AllReadyH.cons rfl (fun K hK => ?_) AllReadyH.nil
    refine step_store_at rfl 80 (.tmp 4) (.tmp 22) rfl (w.heap.size + 1 + 1) 0 #[.int .i64 k4, .int .i64 k1, .int .i64 k5] rfl rfl 80 #[.int .i64 0, .int .i64 0, .int .i64 0] (B4.out.ext (Ext.drew _)) move_info (Nat.le_refl _) (by simp [Value.oneCell']) ?_
    refine hK.out _ _ hS1.out (fun hHeld2 => ?_)
    clear hK K hHeld
    try simp only [List.getElem_toArray, List.getElem_cons_zero, List.getElem_cons_succ, Act.put, List.setIfInBounds_toArray, List.set_cons_zero, List.set_cons_succ]
    refine wpAnyH_ready (rs := [7]) (by kernel_rfl) (by simp) ?_
    refine AllReadyH.cons rfl (fun K hK => ?_) AllReadyH.nil
    refine step_store_at rfl 26 (.tmp 5) (.tmp 27) rfl (w.heap.size + 1 + 1 + 1) 0 #[.int .i64 k4, .int .i64 k5] rfl rfl 26 #[.int .i64 0, .int .i64 0] (Blk.setRow_other (B5.out.ext (Ext.drew _)) _ (by omega)) find_info (Nat.le_refl _) (by simp [Value.oneCell']) ?_
    refine hK.out _ _ hS2.out (fun hHeld3 => ?_)
    clear hK K hHeld2
    try simp only [List.getElem_toArray, List.getElem_cons_zero, List.getElem_cons_succ, Act.put, List.setIfInBounds_toArray, List.set_cons_zero, List.set_cons_succ]
    refine wpAnyH_take (i := 8) (v := (.int .i64 0)) rfl (by kernel_rfl) (by kernel_rfl) (by kernel_rfl) (fun _ _ _ h => h) (Or.inl ⟨by rfl, by (intro w hSw; obtain ⟨s0, s1, s2, s3, s4⟩ := hSw; go_simp)⟩) hHeld3 ?_
    try simp only [List.getElem_toArray, List.getElem_cons_zero, List.getElem_cons_succ, Act.put, List.setIfInBounds_toArray, List.set_cons_zero, List.set_cons_succ]
    refine wpAnyH_done (by kernel_rfl) ?_ _
    go_wp2_with fail
    refine bodyPost_ret (v := .tuple #[.agg #[.int .i64 k4, .int .i64 k1, .int .i64 k5], .agg #[.int .i64 k4, .int .i64 k5], .int .i64 0]) ?_ rfl ⟨⟨_, _, _, _, _, rfl, .inl ⟨rfl, by subst hk; rfl⟩⟩, Ext.setRow (Ext.setRow (HX.out.trans (Ext.drew _)) (by omega) _) (by omega) _⟩
    exact results_two_rows rfl _ _ (w.heap.size + 1 + 1) (w.heap.size + 1 + 1 + 1) 80 26 _ _ _ _ _ _ _ rfl rfl rfl (Blk.setRow_other (Blk.setRow (B4.out.ext (Ext.drew _)) _) _ (by omega)) (Blk.setRow (Blk.setRow_other (B5.out.ext (Ext.drew _)) _ (by omega)) _) Try.underlying80 rfl move_info Try.underlying26 rfl find_info
  · have hk : k4 = 59 := by simpa using ‹(k4 == 59) = true›
    have hf : fk = 0 := by simpa using ‹(fk == 0) = true›
    have hSw : ∀ wx, Blk wx (w.heap.size + 1 + 1 + 1 + 1) 80 #[.int .i64 k4, .int .i64 k1, .int .i64 k5] → Blk wx (w.heap.size) 26 #[.int .i64 fk, .int .i64 fa] → wx.cell? ⟨w.heap.size + 1 + 1 + 1 + 1, 0, none⟩ = some (.int .i64 k4) ∧ wx.cell? ⟨w.heap.size + 1 + 1 + 1 + 1, 1, none⟩ = some (.int .i64 k1) ∧ wx.cell? ⟨w.heap.size + 1 + 1 + 1 + 1, 2, none⟩ = some (.int .i64 k5) ∧ wx.cell? ⟨w.heap.size, 0, none⟩ = some (.int .i64 fk) ∧ wx.cell? ⟨w.heap.size, 1, none⟩ = some (.int .i64 fa) := fun wx h7 h2 => ⟨(cells3 h7).1, (cells3 h7).2.1, (cells3 h7).2.2, (cells2L h2).1, (cells2L h2).2⟩
    have hS0 := Lib.hid (hSw _ (B7.out.ext (Ext.drew W0)) (B2.out.ext (Ext.drew W0)))
    have hS1 := Lib.hid (hSw _ (Blk.setRow_other (B7.out.ext (Ext.drew W0)) #[.int .i64 k4, .int .i64 k1, .int .i64 k5] (show w.heap.size + 1 + 1 + 1 + 1 ≠ w.heap.size + 1 + 1 by omega)) (Blk.setRow_other (B2.out.ext (Ext.drew W0)) #[.int .i64 k4, .int .i64 k1, .int .i64 k5] (show w.heap.size ≠ w.heap.size + 1 + 1 by omega)))
    have hS2 := Lib.hid (hSw _ (Blk.setRow_other (Blk.setRow_other (B7.out.ext (Ext.drew W0)) #[.int .i64 k4, .int .i64 k1, .int .i64 k5] (show w.heap.size + 1 + 1 + 1 + 1 ≠ w.heap.size + 1 + 1 by omega)) #[.int .i64 fk, .int .i64 fa] (show w.heap.size + 1 + 1 + 1 + 1 ≠ w.heap.size + 1 + 1 + 1 by omega)) (Blk.setRow_other (Blk.setRow_other (B2.out.ext (Ext.drew W0)) #[.int .i64 k4, .int .i64 k1, .int .i64 k5] (show w.heap.size ≠ w.heap.size + 1 + 1 by omega)) #[.int .i64 fk, .int .i64 fa] (show w.heap.size ≠ w.heap.size + 1 + 1 + 1 by omega)))
    clear hSw
    refine wp_region_held_drew (S := fun w' => w'.cell? ⟨w.heap.size + 1 + 1 + 1 + 1, 0, none⟩ = some (.int .i64 k4) ∧ w'.cell? ⟨w.heap.size + 1 + 1 + 1 + 1, 1, none⟩ = some (.int .i64 k1) ∧ w'.cell? ⟨w.heap.size + 1 + 1 + 1 + 1, 2, none⟩ = some (.int .i64 k5) ∧ w'.cell? ⟨w.heap.size, 0, none⟩ = some (.int .i64 fk) ∧ w'.cell? ⟨w.heap.size, 1, none⟩ = some (.int .i64 fa)) (by kernel_rfl) hS0.out (fun hHeld => ?_)
    refine wpAnyH_take (i := 0) (v := (.agg #[.int .i64 k4, .int .i64 k1, .int .i64 k5])) rfl (by kernel_rfl) (by kernel_rfl) (by kernel_rfl) (fun _ _ _ h => h) (Or.inl ⟨by rfl, by (intro w hSw; obtain ⟨s0, s1, s2, s3, s4⟩ := hSw; go_simp)⟩) hHeld ?_
    try simp only [List.getElem_toArray, List.getElem_cons_zero, List.getElem_cons_succ, Act.put, List.setIfInBounds_toArray, List.set_cons_zero, List.set_cons_succ]
    refine wpAnyH_take (i := 1) (v := (.agg #[.int .i64 fk, .int .i64 fa])) rfl (by kernel_rfl) (by kernel_rfl) (by kernel_rfl) (fun _ _ _ h => h) (Or.inl ⟨by rfl, by (intro w hSw; obtain ⟨s0, s1, s2, s3, s4⟩ := hSw; go_simp)⟩) hHeld ?_
    try simp only [List.getElem_toArray, List.getElem_cons_zero, List.getElem_cons_succ, Act.put, List.setIfInBounds_toArray, List.set_cons_zero, List.set_cons_succ]
    refine wpAnyH_ready (rs := [2]) (by kernel_rfl) (by simp) ?_
    refine AllReadyH.cons rfl (fun K hK => ?_) AllReadyH.nil
    refine step_store_at rfl 80 (.tmp 4) (.tmp 34) rfl (w.heap.size + 1 + 1) 0 #[.int .i64 k4, .int .i64 k1, .int .i64 k5] rfl rfl 80 #[.int .i64 0, .int .i64 0, .int .i64 0] (B4.out.ext (Ext.drew _)) move_info (Nat.le_refl _) (by simp [Value.oneCell']) ?_
    refine hK.out _ _ hS1.out (fun hHeld2 => ?_)
    clear hK K hHeld
    try simp only [List.getElem_toArray, List.getElem_cons_zero, List.getElem_cons_succ, Act.put, List.setIfInBounds_toArray, List.set_cons_zero, List.set_cons_succ]
    refine wpAnyH_ready (rs := [3]) (by kernel_rfl) (by simp) ?_
    refine AllReadyH.cons rfl (fun K hK => ?_) AllReadyH.nil
    refine step_store_at rfl 26 (.tmp 5) (.tmp 35) rfl (w.heap.size + 1 + 1 + 1) 0 #[.int .i64 fk, .int .i64 fa] rfl rfl 26 #[.int .i64 0, .int .i64 0] (Blk.setRow_other (B5.out.ext (Ext.drew _)) _ (by omega)) find_info (Nat.le_refl _) (by simp [Value.oneCell']) ?_
    refine hK.out _ _ hS2.out (fun hHeld3 => ?_)
    clear hK K hHeld2
    try simp only [List.getElem_toArray, List.getElem_cons_zero, List.getElem_cons_succ, Act.put, List.setIfInBounds_toArray, List.set_cons_zero, List.set_cons_succ]
    refine wpAnyH_take (i := 4) (v := (.int .i64 5)) rfl (by kernel_rfl) (by kernel_rfl) (by kernel_rfl) (fun _ _ _ h => h) (Or.inl ⟨by rfl, by (intro w hSw; obtain ⟨s0, s1, s2, s3, s4⟩ := hSw; go_simp)⟩) hHeld3 ?_
    try simp only [List.getElem_toArray, List.getElem_cons_zero, List.getElem_cons_succ, Act.put, List.setIfInBounds_toArray, List.set_cons_zero, List.set_cons_succ]
    refine wpAnyH_done (by kernel_rfl) ?_ _
    go_wp2_with fail
    refine bodyPost_ret (v := .tuple #[.agg #[.int .i64 k4, .int .i64 k1, .int .i64 k5], .agg #[.int .i64 fk, .int .i64 fa], .int .i64 5]) ?_ rfl ⟨⟨_, _, _, _, _, rfl, .inr ⟨rfl, by subst hk; subst hf; rfl⟩⟩, Ext.setRow (Ext.setRow (HX.out.trans (Ext.drew _)) (by omega) _) (by omega) _⟩
    exact results_two_rows rfl _ _ (w.heap.size + 1 + 1) (w.heap.size + 1 + 1 + 1) 80 26 _ _ _ _ _ _ _ rfl rfl rfl (Blk.setRow_other (Blk.setRow (B4.out.ext (Ext.drew _)) _) _ (by omega)) (Blk.setRow (Blk.setRow_other (B5.out.ext (Ext.drew _)) _ (by omega)) _) Try.underlying80 rfl move_info Try.underlying26 rfl find_info
  · have hk : k4 = 59 := by simpa using ‹(k4 == 59) = true›
    have hf : ¬ fk = 0 := by simpa using ‹(fk == 0) = false›
    subst hk
    have q0 := B7.out.frozen 0
    have q2 := B7.out.frozen 2
    clear x0 x1 y0 y1 y2 y3 y4
    have b7 := B7.out.ext (Ext.drew W0)
    have b2 := B2.out.ext (Ext.drew W0)
    have b3 := B3.out.ext (Ext.drew W0)
    have b4 := B4.out.ext (Ext.drew W0)
    have b5 := B5.out.ext (Ext.drew W0)
    have m0 := (cells3 b7).1
    have f0 := b7.frozen 0
    have b7a : Blk (W0.setCell ⟨w.heap.size + 1 + 1 + 1 + 1, 0, none⟩ (.int .i64 fk)).drew (w.heap.size + 1 + 1 + 1 + 1) 80 #[.int .i64 fk, .int .i64 k1, .int .i64 k5] := b7.set_ 0 _
    have m2 := (cells3 b7a).2.2
    have f2 := b7a.frozen 2
    have b7b : Blk ((W0.setCell ⟨w.heap.size + 1 + 1 + 1 + 1, 0, none⟩ (.int .i64 fk)).setCell ⟨w.heap.size + 1 + 1 + 1 + 1, 2, none⟩ (.int .i64 fa)).drew (w.heap.size + 1 + 1 + 1 + 1) 80 #[.int .i64 fk, .int .i64 k1, .int .i64 fa] := b7a.set_ 2 _
    have b2a : Blk (W0.setCell ⟨w.heap.size + 1 + 1 + 1 + 1, 0, none⟩ (.int .i64 fk)).drew (w.heap.size) 26 #[.int .i64 fk, .int .i64 fa] := set_other b2 (show w.heap.size + 1 + 1 + 1 + 1 ≠ w.heap.size by omega) 0 (.int .i64 fk)
    have hSa := Lib.hid (cells2L b2)
    have hSb := Lib.hid (cells2L b2a)
    have b2c : Blk ((W0.setCell ⟨w.heap.size + 1 + 1 + 1 + 1, 0, none⟩ (.int .i64 fk)).setCell ⟨w.heap.size + 1 + 1 + 1 + 1, 2, none⟩ (.int .i64 fa)).drew (w.heap.size) 26 #[.int .i64 fk, .int .i64 fa] := set_other b2a (show w.heap.size + 1 + 1 + 1 + 1 ≠ w.heap.size by omega) 2 (.int .i64 fa)
    have hSc := Lib.hid (cells2L b2c)
    clear b2c
    have C2 : Hid (Blk ((W0.setCell ⟨w.heap.size + 1 + 1 + 1 + 1, 0, none⟩ (.int .i64 fk)).setCell ⟨w.heap.size + 1 + 1 + 1 + 1, 2, none⟩ (.int .i64 fa)).drew (w.heap.size) 26 #[.int .i64 fk, .int .i64 fa]) := Lib.hid (set_other (set_other b2 (show w.heap.size + 1 + 1 + 1 + 1 ≠ w.heap.size by omega) 0 (.int .i64 fk)) (show w.heap.size + 1 + 1 + 1 + 1 ≠ w.heap.size by omega) 2 (.int .i64 fa))
    have C3 : Hid (Blk ((W0.setCell ⟨w.heap.size + 1 + 1 + 1 + 1, 0, none⟩ (.int .i64 fk)).setCell ⟨w.heap.size + 1 + 1 + 1 + 1, 2, none⟩ (.int .i64 fa)).drew (w.heap.size + 1) 28 #[.int .i64 k1, .int .i64 k2, .int .i64 k3, .int .i64 59, .int .i64 k5]) := Lib.hid (set_other (set_other b3 (show w.heap.size + 1 + 1 + 1 + 1 ≠ w.heap.size + 1 by omega) 0 (.int .i64 fk)) (show w.heap.size + 1 + 1 + 1 + 1 ≠ w.heap.size + 1 by omega) 2 (.int .i64 fa))
    have C4 : Hid (Blk ((W0.setCell ⟨w.heap.size + 1 + 1 + 1 + 1, 0, none⟩ (.int .i64 fk)).setCell ⟨w.heap.size + 1 + 1 + 1 + 1, 2, none⟩ (.int .i64 fa)).drew (w.heap.size + 1 + 1) 80 #[.int .i64 0, .int .i64 0, .int .i64 0]) := Lib.hid (set_other (set_other b4 (show w.heap.size + 1 + 1 + 1 + 1 ≠ w.heap.size + 1 + 1 by omega) 0 (.int .i64 fk)) (show w.heap.size + 1 + 1 + 1 + 1 ≠ w.heap.size + 1 + 1 by omega) 2 (.int .i64 fa))
    have C5 : Hid (Blk ((W0.setCell ⟨w.heap.size + 1 + 1 + 1 + 1, 0, none⟩ (.int .i64 fk)).setCell ⟨w.heap.size + 1 + 1 + 1 + 1, 2, none⟩ (.int .i64 fa)).drew (w.heap.size + 1 + 1 + 1) 26 #[.int .i64 0, .int .i64 0]) := Lib.hid (set_other (set_other b5 (show w.heap.size + 1 + 1 + 1 + 1 ≠ w.heap.size + 1 + 1 + 1 by omega) 0 (.int .i64 fk)) (show w.heap.size + 1 + 1 + 1 + 1 ≠ w.heap.size + 1 + 1 + 1 by omega) 2 (.int .i64 fa))
    have C7 := Lib.hid b7b
    have CX : Hid (Ext w ((W0.setCell ⟨w.heap.size + 1 + 1 + 1 + 1, 0, none⟩ (.int .i64 fk)).setCell ⟨w.heap.size + 1 + 1 + 1 + 1, 2, none⟩ (.int .i64 fa)).drew) := Lib.hid (Ext.setCell (Ext.setCell (HX.out.trans (Ext.drew W0)) (p := ⟨w.heap.size + 1 + 1 + 1 + 1, 0, none⟩) (show w.heap.size ≤ w.heap.size + 1 + 1 + 1 + 1 by omega) (.int .i64 fk)) (p := ⟨w.heap.size + 1 + 1 + 1 + 1, 2, none⟩) (show w.heap.size ≤ w.heap.size + 1 + 1 + 1 + 1 by omega) (.int .i64 fa))
    clear b2 b3 b4 b5 b7 b7a b7b b2a B2 B3 B4 B5 B7 HX
    refine wp_region_held_drew (S := fun w' => w'.cell? ⟨w.heap.size, 0, none⟩ = some (.int .i64 fk) ∧ w'.cell? ⟨w.heap.size, 1, none⟩ = some (.int .i64 fa)) (by kernel_rfl) hSa.out (fun hHeld => ?_)
    refine wpAnyH_take (i := 0) (v := (.pointer (some ⟨w.heap.size, 0, none⟩))) rfl (by kernel_rfl) (by kernel_rfl) (by kernel_rfl) (fun _ _ _ h => h) (Or.inl ⟨by rfl, by (intro w hSw; obtain ⟨s0, s1⟩ := hSw; go_simp)⟩) hHeld ?_
    try simp only [List.getElem_toArray, List.getElem_cons_zero, List.getElem_cons_succ, Act.put, List.setIfInBounds_toArray, List.set_cons_zero, List.set_cons_succ]
    refine wpAnyH_take (i := 1) (v := (.int .i64 fk)) rfl (by kernel_rfl) (by kernel_rfl) (by kernel_rfl) (fun _ _ _ h => h) (Or.inl ⟨by rfl, by (intro w hSw; obtain ⟨s0, s1⟩ := hSw; go_simp)⟩) hHeld ?_
    try simp only [List.getElem_toArray, List.getElem_cons_zero, List.getElem_cons_succ, Act.put, List.setIfInBounds_toArray, List.set_cons_zero, List.set_cons_succ]
    refine wpAnyH_take (i := 2) (v := (.pointer (some ⟨w.heap.size, 1, none⟩))) rfl (by kernel_rfl) (by kernel_rfl) (by kernel_rfl) (fun _ _ _ h => h) (Or.inl ⟨by rfl, by (intro w hSw; obtain ⟨s0, s1⟩ := hSw; go_simp)⟩) hHeld ?_
    try simp only [List.getElem_toArray, List.getElem_cons_zero, List.getElem_cons_succ, Act.put, List.setIfInBounds_toArray, List.set_cons_zero, List.set_cons_succ]
    refine wpAnyH_take (i := 3) (v := (.int .i64 fa)) rfl (by kernel_rfl) (by kernel_rfl) (by kernel_rfl) (fun _ _ _ h => h) (Or.inl ⟨by rfl, by (intro w hSw; obtain ⟨s0, s1⟩ := hSw; go_simp)⟩) hHeld ?_
    try simp only [List.getElem_toArray, List.getElem_cons_zero, List.getElem_cons_succ, Act.put, List.setIfInBounds_toArray, List.set_cons_zero, List.set_cons_succ]
    refine wpAnyH_take (i := 4) (v := (.pointer (some ⟨w.heap.size + 1 + 1 + 1 + 1, 0, none⟩))) rfl (by kernel_rfl) (by kernel_rfl) (by kernel_rfl) (fun _ _ _ h => h) (Or.inl ⟨by rfl, by (intro w hSw; obtain ⟨s0, s1⟩ := hSw; go_simp)⟩) hHeld ?_
    try simp only [List.getElem_toArray, List.getElem_cons_zero, List.getElem_cons_succ, Act.put, List.setIfInBounds_toArray, List.set_cons_zero, List.set_cons_succ]
    refine wpAnyH_ready (rs := [5]) (by kernel_rfl) (by simp) ?_
    refine AllReadyH.cons rfl (fun K hK => ?_) AllReadyH.nil
    go_simp
    refine hK.out _ _ hSb.out (fun hHeld2 => ?_)
    clear hK K hHeld
    try simp only [List.getElem_toArray, List.getElem_cons_zero, List.getElem_cons_succ, Act.put, List.setIfInBounds_toArray, List.set_cons_zero, List.set_cons_succ]
    refine wpAnyH_take (i := 6) (v := (.pointer (some ⟨w.heap.size + 1 + 1 + 1 + 1, 2, none⟩))) rfl (by kernel_rfl) (by kernel_rfl) (by kernel_rfl) (fun _ _ _ h => h) (Or.inl ⟨by rfl, by (intro w hSw; obtain ⟨s0, s1⟩ := hSw; go_simp)⟩) hHeld2 ?_
    try simp only [List.getElem_toArray, List.getElem_cons_zero, List.getElem_cons_succ, Act.put, List.setIfInBounds_toArray, List.set_cons_zero, List.set_cons_succ]
    refine wpAnyH_ready (rs := [7]) (by kernel_rfl) (by simp) ?_
    refine AllReadyH.cons rfl (fun K hK => ?_) AllReadyH.nil
    go_simp
    refine hK.out _ _ hSc.out (fun hHeld3 => ?_)
    clear hK K hHeld2
    try simp only [List.getElem_toArray, List.getElem_cons_zero, List.getElem_cons_succ, Act.put, List.setIfInBounds_toArray, List.set_cons_zero, List.set_cons_succ]
    refine wpAnyH_done (by kernel_rfl) ?_ _
    clear m0 m2 f0 f2 hSa hSb hSc q0 q2 z0 z1 z2
    generalize ((W0.setCell ⟨w.heap.size + 1 + 1 + 1 + 1, 0, none⟩ (.int .i64 fk)).setCell ⟨w.heap.size + 1 + 1 + 1 + 1, 2, none⟩ (.int .i64 fa)).drew = W2 at *
    have y3 := (cells5 C3.out).2.2.2.1
    go_upto_region 15 with fail
    clear C3 y3
    have hSw : ∀ wx, Blk wx (w.heap.size + 1 + 1 + 1 + 1) 80 #[.int .i64 fk, .int .i64 k1, .int .i64 fa] → Blk wx (w.heap.size) 26 #[.int .i64 fk, .int .i64 fa] → wx.cell? ⟨w.heap.size + 1 + 1 + 1 + 1, 0, none⟩ = some (.int .i64 fk) ∧ wx.cell? ⟨w.heap.size + 1 + 1 + 1 + 1, 1, none⟩ = some (.int .i64 k1) ∧ wx.cell? ⟨w.heap.size + 1 + 1 + 1 + 1, 2, none⟩ = some (.int .i64 fa) ∧ wx.cell? ⟨w.heap.size, 0, none⟩ = some (.int .i64 fk) ∧ wx.cell? ⟨w.heap.size, 1, none⟩ = some (.int .i64 fa) := fun wx h7 h2 => ⟨(cells3 h7).1, (cells3 h7).2.1, (cells3 h7).2.2, (cells2L h2).1, (cells2L h2).2⟩
    have hS0 := Lib.hid (hSw _ (C7.out.ext (Ext.drew W2)) (C2.out.ext (Ext.drew W2)))
    have hS1 := Lib.hid (hSw _ (Blk.setRow_other (C7.out.ext (Ext.drew W2)) #[.int .i64 fk, .int .i64 k1, .int .i64 fa] (show w.heap.size + 1 + 1 + 1 + 1 ≠ w.heap.size + 1 + 1 by omega)) (Blk.setRow_other (C2.out.ext (Ext.drew W2)) #[.int .i64 fk, .int .i64 k1, .int .i64 fa] (show w.heap.size ≠ w.heap.size + 1 + 1 by omega)))
    have hS2 := Lib.hid (hSw _ (Blk.setRow_other (Blk.setRow_other (C7.out.ext (Ext.drew W2)) #[.int .i64 fk, .int .i64 k1, .int .i64 fa] (show w.heap.size + 1 + 1 + 1 + 1 ≠ w.heap.size + 1 + 1 by omega)) #[.int .i64 fk, .int .i64 fa] (show w.heap.size + 1 + 1 + 1 + 1 ≠ w.heap.size + 1 + 1 + 1 by omega)) (Blk.setRow_other (Blk.setRow_other (C2.out.ext (Ext.drew W2)) #[.int .i64 fk, .int .i64 k1, .int .i64 fa] (show w.heap.size ≠ w.heap.size + 1 + 1 by omega)) #[.int .i64 fk, .int .i64 fa] (show w.heap.size ≠ w.heap.size + 1 + 1 + 1 by omega)))
    clear hSw
    refine wp_region_held_drew (S := fun w' => w'.cell? ⟨w.heap.size + 1 + 1 + 1 + 1, 0, none⟩ = some (.int .i64 fk) ∧ w'.cell? ⟨w.heap.size + 1 + 1 + 1 + 1, 1, none⟩ = some (.int .i64 k1) ∧ w'.cell? ⟨w.heap.size + 1 + 1 + 1 + 1, 2, none⟩ = some (.int .i64 fa) ∧ w'.cell? ⟨w.heap.size, 0, none⟩ = some (.int .i64 fk) ∧ w'.cell? ⟨w.heap.size, 1, none⟩ = some (.int .i64 fa)) (by kernel_rfl) hS0.out (fun hHeld => ?_)
    refine wpAnyH_take (i := 0) (v := (.agg #[.int .i64 fk, .int .i64 k1, .int .i64 fa])) rfl (by kernel_rfl) (by kernel_rfl) (by kernel_rfl) (fun _ _ _ h => h) (Or.inl ⟨by rfl, by (intro w hSw; obtain ⟨s0, s1, s2, s3, s4⟩ := hSw; go_simp)⟩) hHeld ?_
    try simp only [List.getElem_toArray, List.getElem_cons_zero, List.getElem_cons_succ, Act.put, List.setIfInBounds_toArray, List.set_cons_zero, List.set_cons_succ]
    refine wpAnyH_take (i := 1) (v := (.agg #[.int .i64 fk, .int .i64 fa])) rfl (by kernel_rfl) (by kernel_rfl) (by kernel_rfl) (fun _ _ _ h => h) (Or.inl ⟨by rfl, by (intro w hSw; obtain ⟨s0, s1, s2, s3, s4⟩ := hSw; go_simp)⟩) hHeld ?_
    try simp only [List.getElem_toArray, List.getElem_cons_zero, List.getElem_cons_succ, Act.put, List.setIfInBounds_toArray, List.set_cons_zero, List.set_cons_succ]
    refine wpAnyH_ready (rs := [2]) (by kernel_rfl) (by simp) ?_
    refine AllReadyH.cons rfl (fun K hK => ?_) AllReadyH.nil
    refine step_store_at rfl 80 (.tmp 4) (.tmp 49) rfl (w.heap.size + 1 + 1) 0 #[.int .i64 fk, .int .i64 k1, .int .i64 fa] rfl rfl 80 #[.int .i64 0, .int .i64 0, .int .i64 0] (C4.out.ext (Ext.drew _)) move_info (Nat.le_refl _) (by simp [Value.oneCell']) ?_
    refine hK.out _ _ hS1.out (fun hHeld2 => ?_)
    clear hK K hHeld
    try simp only [List.getElem_toArray, List.getElem_cons_zero, List.getElem_cons_succ, Act.put, List.setIfInBounds_toArray, List.set_cons_zero, List.set_cons_succ]
    refine wpAnyH_ready (rs := [3]) (by kernel_rfl) (by simp) ?_
    refine AllReadyH.cons rfl (fun K hK => ?_) AllReadyH.nil
    refine step_store_at rfl 26 (.tmp 5) (.tmp 50) rfl (w.heap.size + 1 + 1 + 1) 0 #[.int .i64 fk, .int .i64 fa] rfl rfl 26 #[.int .i64 0, .int .i64 0] (Blk.setRow_other (C5.out.ext (Ext.drew _)) _ (by omega)) find_info (Nat.le_refl _) (by simp [Value.oneCell']) ?_
    refine hK.out _ _ hS2.out (fun hHeld3 => ?_)
    clear hK K hHeld2
    try simp only [List.getElem_toArray, List.getElem_cons_zero, List.getElem_cons_succ, Act.put, List.setIfInBounds_toArray, List.set_cons_zero, List.set_cons_succ]
    refine wpAnyH_take (i := 4) (v := (.int .i64 0)) rfl (by kernel_rfl) (by kernel_rfl) (by kernel_rfl) (fun _ _ _ h => h) (Or.inl ⟨by rfl, by (intro w hSw; obtain ⟨s0, s1, s2, s3, s4⟩ := hSw; go_simp)⟩) hHeld3 ?_
    try simp only [List.getElem_toArray, List.getElem_cons_zero, List.getElem_cons_succ, Act.put, List.setIfInBounds_toArray, List.set_cons_zero, List.set_cons_succ]
    refine wpAnyH_done (by kernel_rfl) ?_ _
    go_wp2_with fail
    refine bodyPost_ret (v := .tuple #[.agg #[.int .i64 fk, .int .i64 k1, .int .i64 fa], .agg #[.int .i64 fk, .int .i64 fa], .int .i64 0]) ?_ rfl ⟨⟨_, _, _, _, _, rfl, .inl ⟨rfl, by unfold foundF'; rw [if_neg (by decide), if_pos rfl, if_neg hf]⟩⟩, Ext.setRow (Ext.setRow (CX.out.trans (Ext.drew _)) (by omega) _) (by omega) _⟩
    exact results_two_rows rfl _ _ (w.heap.size + 1 + 1) (w.heap.size + 1 + 1 + 1) 80 26 _ _ _ _ _ _ _ rfl rfl rfl (Blk.setRow_other (Blk.setRow (C4.out.ext (Ext.drew _)) _) _ (by omega)) (Blk.setRow (Blk.setRow_other (C5.out.ext (Ext.drew _)) _ (by omega)) _) Try.underlying80 rfl move_info Try.underlying26 rfl find_info
  · have hk : k4 = 44 := by simpa using ‹(k4 == 44) = true›
    have hf : fk = 0 := by simpa using ‹(fk == 0) = true›
    have hSw : ∀ wx, Blk wx (w.heap.size + 1 + 1 + 1 + 1) 80 #[.int .i64 k4, .int .i64 k1, .int .i64 k5] → Blk wx (w.heap.size) 26 #[.int .i64 fk, .int .i64 fa] → wx.cell? ⟨w.heap.size + 1 + 1 + 1 + 1, 0, none⟩ = some (.int .i64 k4) ∧ wx.cell? ⟨w.heap.size + 1 + 1 + 1 + 1, 1, none⟩ = some (.int .i64 k1) ∧ wx.cell? ⟨w.heap.size + 1 + 1 + 1 + 1, 2, none⟩ = some (.int .i64 k5) ∧ wx.cell? ⟨w.heap.size, 0, none⟩ = some (.int .i64 fk) ∧ wx.cell? ⟨w.heap.size, 1, none⟩ = some (.int .i64 fa) := fun wx h7 h2 => ⟨(cells3 h7).1, (cells3 h7).2.1, (cells3 h7).2.2, (cells2L h2).1, (cells2L h2).2⟩
    have hS0 := Lib.hid (hSw _ (B7.out.ext (Ext.drew W0)) (B2.out.ext (Ext.drew W0)))
    have hS1 := Lib.hid (hSw _ (Blk.setRow_other (B7.out.ext (Ext.drew W0)) #[.int .i64 k4, .int .i64 k1, .int .i64 k5] (show w.heap.size + 1 + 1 + 1 + 1 ≠ w.heap.size + 1 + 1 by omega)) (Blk.setRow_other (B2.out.ext (Ext.drew W0)) #[.int .i64 k4, .int .i64 k1, .int .i64 k5] (show w.heap.size ≠ w.heap.size + 1 + 1 by omega)))
    have hS2 := Lib.hid (hSw _ (Blk.setRow_other (Blk.setRow_other (B7.out.ext (Ext.drew W0)) #[.int .i64 k4, .int .i64 k1, .int .i64 k5] (show w.heap.size + 1 + 1 + 1 + 1 ≠ w.heap.size + 1 + 1 by omega)) #[.int .i64 fk, .int .i64 fa] (show w.heap.size + 1 + 1 + 1 + 1 ≠ w.heap.size + 1 + 1 + 1 by omega)) (Blk.setRow_other (Blk.setRow_other (B2.out.ext (Ext.drew W0)) #[.int .i64 k4, .int .i64 k1, .int .i64 k5] (show w.heap.size ≠ w.heap.size + 1 + 1 by omega)) #[.int .i64 fk, .int .i64 fa] (show w.heap.size ≠ w.heap.size + 1 + 1 + 1 by omega)))
    clear hSw
    refine wp_region_held_drew (S := fun w' => w'.cell? ⟨w.heap.size + 1 + 1 + 1 + 1, 0, none⟩ = some (.int .i64 k4) ∧ w'.cell? ⟨w.heap.size + 1 + 1 + 1 + 1, 1, none⟩ = some (.int .i64 k1) ∧ w'.cell? ⟨w.heap.size + 1 + 1 + 1 + 1, 2, none⟩ = some (.int .i64 k5) ∧ w'.cell? ⟨w.heap.size, 0, none⟩ = some (.int .i64 fk) ∧ w'.cell? ⟨w.heap.size, 1, none⟩ = some (.int .i64 fa)) (by kernel_rfl) hS0.out (fun hHeld => ?_)
    refine wpAnyH_take (i := 0) (v := (.agg #[.int .i64 k4, .int .i64 k1, .int .i64 k5])) rfl (by kernel_rfl) (by kernel_rfl) (by kernel_rfl) (fun _ _ _ h => h) (Or.inl ⟨by rfl, by (intro w hSw; obtain ⟨s0, s1, s2, s3, s4⟩ := hSw; go_simp)⟩) hHeld ?_
    try simp only [List.getElem_toArray, List.getElem_cons_zero, List.getElem_cons_succ, Act.put, List.setIfInBounds_toArray, List.set_cons_zero, List.set_cons_succ]
    refine wpAnyH_take (i := 1) (v := (.agg #[.int .i64 fk, .int .i64 fa])) rfl (by kernel_rfl) (by kernel_rfl) (by kernel_rfl) (fun _ _ _ h => h) (Or.inl ⟨by rfl, by (intro w hSw; obtain ⟨s0, s1, s2, s3, s4⟩ := hSw; go_simp)⟩) hHeld ?_
    try simp only [List.getElem_toArray, List.getElem_cons_zero, List.getElem_cons_succ, Act.put, List.setIfInBounds_toArray, List.set_cons_zero, List.set_cons_succ]
    refine wpAnyH_ready (rs := [2]) (by kernel_rfl) (by simp) ?_
    refine AllReadyH.cons rfl (fun K hK => ?_) AllReadyH.nil
    refine step_store_at rfl 80 (.tmp 4) (.tmp 34) rfl (w.heap.size + 1 + 1) 0 #[.int .i64 k4, .int .i64 k1, .int .i64 k5] rfl rfl 80 #[.int .i64 0, .int .i64 0, .int .i64 0] (B4.out.ext (Ext.drew _)) move_info (Nat.le_refl _) (by simp [Value.oneCell']) ?_
    refine hK.out _ _ hS1.out (fun hHeld2 => ?_)
    clear hK K hHeld
    try simp only [List.getElem_toArray, List.getElem_cons_zero, List.getElem_cons_succ, Act.put, List.setIfInBounds_toArray, List.set_cons_zero, List.set_cons_succ]
    refine wpAnyH_ready (rs := [3]) (by kernel_rfl) (by simp) ?_
    refine AllReadyH.cons rfl (fun K hK => ?_) AllReadyH.nil
    refine step_store_at rfl 26 (.tmp 5) (.tmp 35) rfl (w.heap.size + 1 + 1 + 1) 0 #[.int .i64 fk, .int .i64 fa] rfl rfl 26 #[.int .i64 0, .int .i64 0] (Blk.setRow_other (B5.out.ext (Ext.drew _)) _ (by omega)) find_info (Nat.le_refl _) (by simp [Value.oneCell']) ?_
    refine hK.out _ _ hS2.out (fun hHeld3 => ?_)
    clear hK K hHeld2
    try simp only [List.getElem_toArray, List.getElem_cons_zero, List.getElem_cons_succ, Act.put, List.setIfInBounds_toArray, List.set_cons_zero, List.set_cons_succ]
    refine wpAnyH_take (i := 4) (v := (.int .i64 5)) rfl (by kernel_rfl) (by kernel_rfl) (by kernel_rfl) (fun _ _ _ h => h) (Or.inl ⟨by rfl, by (intro w hSw; obtain ⟨s0, s1, s2, s3, s4⟩ := hSw; go_simp)⟩) hHeld3 ?_
    try simp only [List.getElem_toArray, List.getElem_cons_zero, List.getElem_cons_succ, Act.put, List.setIfInBounds_toArray, List.set_cons_zero, List.set_cons_succ]
    refine wpAnyH_done (by kernel_rfl) ?_ _
    go_wp2_with fail
    refine bodyPost_ret (v := .tuple #[.agg #[.int .i64 k4, .int .i64 k1, .int .i64 k5], .agg #[.int .i64 fk, .int .i64 fa], .int .i64 5]) ?_ rfl ⟨⟨_, _, _, _, _, rfl, .inr ⟨rfl, by subst hk; subst hf; rfl⟩⟩, Ext.setRow (Ext.setRow (HX.out.trans (Ext.drew _)) (by omega) _) (by omega) _⟩
    exact results_two_rows rfl _ _ (w.heap.size + 1 + 1) (w.heap.size + 1 + 1 + 1) 80 26 _ _ _ _ _ _ _ rfl rfl rfl (Blk.setRow_other (Blk.setRow (B4.out.ext (Ext.drew _)) _) _ (by omega)) (Blk.setRow (Blk.setRow_other (B5.out.ext (Ext.drew _)) _ (by omega)) _) Try.underlying80 rfl move_info Try.underlying26 rfl find_info
  · have hk : k4 = 44 := by simpa using ‹(k4 == 44) = true›
    have hf : ¬ fk = 0 := by simpa using ‹(fk == 0) = false›
    subst hk
    have q0 := B7.out.frozen 0
    have q2 := B7.out.frozen 2
    clear x0 x1 y0 y1 y2 y3 y4
    have b7 := B7.out.ext (Ext.drew W0)
    have b2 := B2.out.ext (Ext.drew W0)
    have b3 := B3.out.ext (Ext.drew W0)
    have b4 := B4.out.ext (Ext.drew W0)
    have b5 := B5.out.ext (Ext.drew W0)
    have m0 := (cells3 b7).1
    have f0 := b7.frozen 0
    have b7a : Blk (W0.setCell ⟨w.heap.size + 1 + 1 + 1 + 1, 0, none⟩ (.int .i64 fk)).drew (w.heap.size + 1 + 1 + 1 + 1) 80 #[.int .i64 fk, .int .i64 k1, .int .i64 k5] := b7.set_ 0 _
    have m2 := (cells3 b7a).2.2
    have f2 := b7a.frozen 2
    have b7b : Blk ((W0.setCell ⟨w.heap.size + 1 + 1 + 1 + 1, 0, none⟩ (.int .i64 fk)).setCell ⟨w.heap.size + 1 + 1 + 1 + 1, 2, none⟩ (.int .i64 fa)).drew (w.heap.size + 1 + 1 + 1 + 1) 80 #[.int .i64 fk, .int .i64 k1, .int .i64 fa] := b7a.set_ 2 _
    have b2a : Blk (W0.setCell ⟨w.heap.size + 1 + 1 + 1 + 1, 0, none⟩ (.int .i64 fk)).drew (w.heap.size) 26 #[.int .i64 fk, .int .i64 fa] := set_other b2 (show w.heap.size + 1 + 1 + 1 + 1 ≠ w.heap.size by omega) 0 (.int .i64 fk)
    have hSa := Lib.hid (cells2L b2)
    have hSb := Lib.hid (cells2L b2a)
    have b2c : Blk ((W0.setCell ⟨w.heap.size + 1 + 1 + 1 + 1, 0, none⟩ (.int .i64 fk)).setCell ⟨w.heap.size + 1 + 1 + 1 + 1, 2, none⟩ (.int .i64 fa)).drew (w.heap.size) 26 #[.int .i64 fk, .int .i64 fa] := set_other b2a (show w.heap.size + 1 + 1 + 1 + 1 ≠ w.heap.size by omega) 2 (.int .i64 fa)
    have hSc := Lib.hid (cells2L b2c)
    clear b2c
    have C2 : Hid (Blk ((W0.setCell ⟨w.heap.size + 1 + 1 + 1 + 1, 0, none⟩ (.int .i64 fk)).setCell ⟨w.heap.size + 1 + 1 + 1 + 1, 2, none⟩ (.int .i64 fa)).drew (w.heap.size) 26 #[.int .i64 fk, .int .i64 fa]) := Lib.hid (set_other (set_other b2 (show w.heap.size + 1 + 1 + 1 + 1 ≠ w.heap.size by omega) 0 (.int .i64 fk)) (show w.heap.size + 1 + 1 + 1 + 1 ≠ w.heap.size by omega) 2 (.int .i64 fa))
    have C3 : Hid (Blk ((W0.setCell ⟨w.heap.size + 1 + 1 + 1 + 1, 0, none⟩ (.int .i64 fk)).setCell ⟨w.heap.size + 1 + 1 + 1 + 1, 2, none⟩ (.int .i64 fa)).drew (w.heap.size + 1) 28 #[.int .i64 k1, .int .i64 k2, .int .i64 k3, .int .i64 44, .int .i64 k5]) := Lib.hid (set_other (set_other b3 (show w.heap.size + 1 + 1 + 1 + 1 ≠ w.heap.size + 1 by omega) 0 (.int .i64 fk)) (show w.heap.size + 1 + 1 + 1 + 1 ≠ w.heap.size + 1 by omega) 2 (.int .i64 fa))
    have C4 : Hid (Blk ((W0.setCell ⟨w.heap.size + 1 + 1 + 1 + 1, 0, none⟩ (.int .i64 fk)).setCell ⟨w.heap.size + 1 + 1 + 1 + 1, 2, none⟩ (.int .i64 fa)).drew (w.heap.size + 1 + 1) 80 #[.int .i64 0, .int .i64 0, .int .i64 0]) := Lib.hid (set_other (set_other b4 (show w.heap.size + 1 + 1 + 1 + 1 ≠ w.heap.size + 1 + 1 by omega) 0 (.int .i64 fk)) (show w.heap.size + 1 + 1 + 1 + 1 ≠ w.heap.size + 1 + 1 by omega) 2 (.int .i64 fa))
    have C5 : Hid (Blk ((W0.setCell ⟨w.heap.size + 1 + 1 + 1 + 1, 0, none⟩ (.int .i64 fk)).setCell ⟨w.heap.size + 1 + 1 + 1 + 1, 2, none⟩ (.int .i64 fa)).drew (w.heap.size + 1 + 1 + 1) 26 #[.int .i64 0, .int .i64 0]) := Lib.hid (set_other (set_other b5 (show w.heap.size + 1 + 1 + 1 + 1 ≠ w.heap.size + 1 + 1 + 1 by omega) 0 (.int .i64 fk)) (show w.heap.size + 1 + 1 + 1 + 1 ≠ w.heap.size + 1 + 1 + 1 by omega) 2 (.int .i64 fa))
    have C7 := Lib.hid b7b
    have CX : Hid (Ext w ((W0.setCell ⟨w.heap.size + 1 + 1 + 1 + 1, 0, none⟩ (.int .i64 fk)).setCell ⟨w.heap.size + 1 + 1 + 1 + 1, 2, none⟩ (.int .i64 fa)).drew) := Lib.hid (Ext.setCell (Ext.setCell (HX.out.trans (Ext.drew W0)) (p := ⟨w.heap.size + 1 + 1 + 1 + 1, 0, none⟩) (show w.heap.size ≤ w.heap.size + 1 + 1 + 1 + 1 by omega) (.int .i64 fk)) (p := ⟨w.heap.size + 1 + 1 + 1 + 1, 2, none⟩) (show w.heap.size ≤ w.heap.size + 1 + 1 + 1 + 1 by omega) (.int .i64 fa))
    clear b2 b3 b4 b5 b7 b7a b7b b2a B2 B3 B4 B5 B7 HX
    refine wp_region_held_drew (S := fun w' => w'.cell? ⟨w.heap.size, 0, none⟩ = some (.int .i64 fk) ∧ w'.cell? ⟨w.heap.size, 1, none⟩ = some (.int .i64 fa)) (by kernel_rfl) hSa.out (fun hHeld => ?_)
    refine wpAnyH_take (i := 0) (v := (.pointer (some ⟨w.heap.size, 0, none⟩))) rfl (by kernel_rfl) (by kernel_rfl) (by kernel_rfl) (fun _ _ _ h => h) (Or.inl ⟨by rfl, by (intro w hSw; obtain ⟨s0, s1⟩ := hSw; go_simp)⟩) hHeld ?_
    try simp only [List.getElem_toArray, List.getElem_cons_zero, List.getElem_cons_succ, Act.put, List.setIfInBounds_toArray, List.set_cons_zero, List.set_cons_succ]
    refine wpAnyH_take (i := 1) (v := (.int .i64 fk)) rfl (by kernel_rfl) (by kernel_rfl) (by kernel_rfl) (fun _ _ _ h => h) (Or.inl ⟨by rfl, by (intro w hSw; obtain ⟨s0, s1⟩ := hSw; go_simp)⟩) hHeld ?_
    try simp only [List.getElem_toArray, List.getElem_cons_zero, List.getElem_cons_succ, Act.put, List.setIfInBounds_toArray, List.set_cons_zero, List.set_cons_succ]
    refine wpAnyH_take (i := 2) (v := (.pointer (some ⟨w.heap.size, 1, none⟩))) rfl (by kernel_rfl) (by kernel_rfl) (by kernel_rfl) (fun _ _ _ h => h) (Or.inl ⟨by rfl, by (intro w hSw; obtain ⟨s0, s1⟩ := hSw; go_simp)⟩) hHeld ?_
    try simp only [List.getElem_toArray, List.getElem_cons_zero, List.getElem_cons_succ, Act.put, List.setIfInBounds_toArray, List.set_cons_zero, List.set_cons_succ]
    refine wpAnyH_take (i := 3) (v := (.int .i64 fa)) rfl (by kernel_rfl) (by kernel_rfl) (by kernel_rfl) (fun _ _ _ h => h) (Or.inl ⟨by rfl, by (intro w hSw; obtain ⟨s0, s1⟩ := hSw; go_simp)⟩) hHeld ?_
    try simp only [List.getElem_toArray, List.getElem_cons_zero, List.getElem_cons_succ, Act.put, List.setIfInBounds_toArray, List.set_cons_zero, List.set_cons_succ]
    refine wpAnyH_take (i := 4) (v := (.pointer (some ⟨w.heap.size + 1 + 1 + 1 + 1, 0, none⟩))) rfl (by kernel_rfl) (by kernel_rfl) (by kernel_rfl) (fun _ _ _ h => h) (Or.inl ⟨by rfl, by (intro w hSw; obtain ⟨s0, s1⟩ := hSw; go_simp)⟩) hHeld ?_
    try simp only [List.getElem_toArray, List.getElem_cons_zero, List.getElem_cons_succ, Act.put, List.setIfInBounds_toArray, List.set_cons_zero, List.set_cons_succ]
    refine wpAnyH_ready (rs := [5]) (by kernel_rfl) (by simp) ?_
    refine AllReadyH.cons rfl (fun K hK => ?_) AllReadyH.nil
    go_simp
    refine hK.out _ _ hSb.out (fun hHeld2 => ?_)
    clear hK K hHeld
    try simp only [List.getElem_toArray, List.getElem_cons_zero, List.getElem_cons_succ, Act.put, List.setIfInBounds_toArray, List.set_cons_zero, List.set_cons_succ]
    refine wpAnyH_take (i := 6) (v := (.pointer (some ⟨w.heap.size + 1 + 1 + 1 + 1, 2, none⟩))) rfl (by kernel_rfl) (by kernel_rfl) (by kernel_rfl) (fun _ _ _ h => h) (Or.inl ⟨by rfl, by (intro w hSw; obtain ⟨s0, s1⟩ := hSw; go_simp)⟩) hHeld2 ?_
    try simp only [List.getElem_toArray, List.getElem_cons_zero, List.getElem_cons_succ, Act.put, List.setIfInBounds_toArray, List.set_cons_zero, List.set_cons_succ]
    refine wpAnyH_ready (rs := [7]) (by kernel_rfl) (by simp) ?_
    refine AllReadyH.cons rfl (fun K hK => ?_) AllReadyH.nil
    go_simp
    refine hK.out _ _ hSc.out (fun hHeld3 => ?_)
    clear hK K hHeld2
    try simp only [List.getElem_toArray, List.getElem_cons_zero, List.getElem_cons_succ, Act.put, List.setIfInBounds_toArray, List.set_cons_zero, List.set_cons_succ]
    refine wpAnyH_done (by kernel_rfl) ?_ _
    clear m0 m2 f0 f2 hSa hSb hSc q0 q2 z0 z1 z2
    generalize ((W0.setCell ⟨w.heap.size + 1 + 1 + 1 + 1, 0, none⟩ (.int .i64 fk)).setCell ⟨w.heap.size + 1 + 1 + 1 + 1, 2, none⟩ (.int .i64 fa)).drew = W2 at *
    have y3 := (cells5 C3.out).2.2.2.1
    have z0 := (cells3 C7.out).1
    have g0 := C7.out.frozen 0
    go_upto_region 15 with fail
    have D7 : Hid (Blk (W2.setCell ⟨w.heap.size + 1 + 1 + 1 + 1, 0, none⟩ (.int .i64 (bits .xor .i64 fk 32))) (w.heap.size + 1 + 1 + 1 + 1) 80 #[.int .i64 (bits .xor .i64 fk 32), .int .i64 k1, .int .i64 fa]) := Lib.hid (C7.out.set_ 0 _)
    have D2 := Lib.hid (set_other C2.out (show w.heap.size + 1 + 1 + 1 + 1 ≠ w.heap.size by omega) 0 (.int .i64 (bits .xor .i64 fk 32)))
    have D4 := Lib.hid (set_other C4.out (show w.heap.size + 1 + 1 + 1 + 1 ≠ w.heap.size + 1 + 1 by omega) 0 (.int .i64 (bits .xor .i64 fk 32)))
    have D5 := Lib.hid (set_other C5.out (show w.heap.size + 1 + 1 + 1 + 1 ≠ w.heap.size + 1 + 1 + 1 by omega) 0 (.int .i64 (bits .xor .i64 fk 32)))
    have DX := Lib.hid (Ext.setCell CX.out (p := ⟨w.heap.size + 1 + 1 + 1 + 1, 0, none⟩) (show w.heap.size ≤ w.heap.size + 1 + 1 + 1 + 1 by omega) (.int .i64 (bits .xor .i64 fk 32)))
    clear C2 C3 C4 C5 C7 CX y3 z0 g0
    generalize (W2.setCell ⟨w.heap.size + 1 + 1 + 1 + 1, 0, none⟩ (.int .i64 (bits .xor .i64 fk 32))) = W3 at *
    have hSw : ∀ wx, Blk wx (w.heap.size + 1 + 1 + 1 + 1) 80 #[.int .i64 (bits .xor .i64 fk 32), .int .i64 k1, .int .i64 fa] → Blk wx (w.heap.size) 26 #[.int .i64 fk, .int .i64 fa] → wx.cell? ⟨w.heap.size + 1 + 1 + 1 + 1, 0, none⟩ = some (.int .i64 (bits .xor .i64 fk 32)) ∧ wx.cell? ⟨w.heap.size + 1 + 1 + 1 + 1, 1, none⟩ = some (.int .i64 k1) ∧ wx.cell? ⟨w.heap.size + 1 + 1 + 1 + 1, 2, none⟩ = some (.int .i64 fa) ∧ wx.cell? ⟨w.heap.size, 0, none⟩ = some (.int .i64 fk) ∧ wx.cell? ⟨w.heap.size, 1, none⟩ = some (.int .i64 fa) := fun wx h7 h2 => ⟨(cells3 h7).1, (cells3 h7).2.1, (cells3 h7).2.2, (cells2L h2).1, (cells2L h2).2⟩
    have hS0 := Lib.hid (hSw _ (D7.out.ext (Ext.drew W3)) (D2.out.ext (Ext.drew W3)))
    have hS1 := Lib.hid (hSw _ (Blk.setRow_other (D7.out.ext (Ext.drew W3)) #[.int .i64 (bits .xor .i64 fk 32), .int .i64 k1, .int .i64 fa] (show w.heap.size + 1 + 1 + 1 + 1 ≠ w.heap.size + 1 + 1 by omega)) (Blk.setRow_other (D2.out.ext (Ext.drew W3)) #[.int .i64 (bits .xor .i64 fk 32), .int .i64 k1, .int .i64 fa] (show w.heap.size ≠ w.heap.size + 1 + 1 by omega)))
    have hS2 := Lib.hid (hSw _ (Blk.setRow_other (Blk.setRow_other (D7.out.ext (Ext.drew W3)) #[.int .i64 (bits .xor .i64 fk 32), .int .i64 k1, .int .i64 fa] (show w.heap.size + 1 + 1 + 1 + 1 ≠ w.heap.size + 1 + 1 by omega)) #[.int .i64 fk, .int .i64 fa] (show w.heap.size + 1 + 1 + 1 + 1 ≠ w.heap.size + 1 + 1 + 1 by omega)) (Blk.setRow_other (Blk.setRow_other (D2.out.ext (Ext.drew W3)) #[.int .i64 (bits .xor .i64 fk 32), .int .i64 k1, .int .i64 fa] (show w.heap.size ≠ w.heap.size + 1 + 1 by omega)) #[.int .i64 fk, .int .i64 fa] (show w.heap.size ≠ w.heap.size + 1 + 1 + 1 by omega)))
    clear hSw
    refine wp_region_held_drew (S := fun w' => w'.cell? ⟨w.heap.size + 1 + 1 + 1 + 1, 0, none⟩ = some (.int .i64 (bits .xor .i64 fk 32)) ∧ w'.cell? ⟨w.heap.size + 1 + 1 + 1 + 1, 1, none⟩ = some (.int .i64 k1) ∧ w'.cell? ⟨w.heap.size + 1 + 1 + 1 + 1, 2, none⟩ = some (.int .i64 fa) ∧ w'.cell? ⟨w.heap.size, 0, none⟩ = some (.int .i64 fk) ∧ w'.cell? ⟨w.heap.size, 1, none⟩ = some (.int .i64 fa)) (by kernel_rfl) hS0.out (fun hHeld => ?_)
    refine wpAnyH_take (i := 0) (v := (.agg #[.int .i64 (bits .xor .i64 fk 32), .int .i64 k1, .int .i64 fa])) rfl (by kernel_rfl) (by kernel_rfl) (by kernel_rfl) (fun _ _ _ h => h) (Or.inl ⟨by rfl, by (intro w hSw; obtain ⟨s0, s1, s2, s3, s4⟩ := hSw; go_simp)⟩) hHeld ?_
    try simp only [List.getElem_toArray, List.getElem_cons_zero, List.getElem_cons_succ, Act.put, List.setIfInBounds_toArray, List.set_cons_zero, List.set_cons_succ]
    refine wpAnyH_take (i := 1) (v := (.agg #[.int .i64 fk, .int .i64 fa])) rfl (by kernel_rfl) (by kernel_rfl) (by kernel_rfl) (fun _ _ _ h => h) (Or.inl ⟨by rfl, by (intro w hSw; obtain ⟨s0, s1, s2, s3, s4⟩ := hSw; go_simp)⟩) hHeld ?_
    try simp only [List.getElem_toArray, List.getElem_cons_zero, List.getElem_cons_succ, Act.put, List.setIfInBounds_toArray, List.set_cons_zero, List.set_cons_succ]
    refine wpAnyH_ready (rs := [2]) (by kernel_rfl) (by simp) ?_
    refine AllReadyH.cons rfl (fun K hK => ?_) AllReadyH.nil
    refine step_store_at rfl 80 (.tmp 4) (.tmp 49) rfl (w.heap.size + 1 + 1) 0 #[.int .i64 (bits .xor .i64 fk 32), .int .i64 k1, .int .i64 fa] rfl rfl 80 #[.int .i64 0, .int .i64 0, .int .i64 0] (D4.out.ext (Ext.drew _)) move_info (Nat.le_refl _) (by simp [Value.oneCell']) ?_
    refine hK.out _ _ hS1.out (fun hHeld2 => ?_)
    clear hK K hHeld
    try simp only [List.getElem_toArray, List.getElem_cons_zero, List.getElem_cons_succ, Act.put, List.setIfInBounds_toArray, List.set_cons_zero, List.set_cons_succ]
    refine wpAnyH_ready (rs := [3]) (by kernel_rfl) (by simp) ?_
    refine AllReadyH.cons rfl (fun K hK => ?_) AllReadyH.nil
    refine step_store_at rfl 26 (.tmp 5) (.tmp 50) rfl (w.heap.size + 1 + 1 + 1) 0 #[.int .i64 fk, .int .i64 fa] rfl rfl 26 #[.int .i64 0, .int .i64 0] (Blk.setRow_other (D5.out.ext (Ext.drew _)) _ (by omega)) find_info (Nat.le_refl _) (by simp [Value.oneCell']) ?_
    refine hK.out _ _ hS2.out (fun hHeld3 => ?_)
    clear hK K hHeld2
    try simp only [List.getElem_toArray, List.getElem_cons_zero, List.getElem_cons_succ, Act.put, List.setIfInBounds_toArray, List.set_cons_zero, List.set_cons_succ]
    refine wpAnyH_take (i := 4) (v := (.int .i64 0)) rfl (by kernel_rfl) (by kernel_rfl) (by kernel_rfl) (fun _ _ _ h => h) (Or.inl ⟨by rfl, by (intro w hSw; obtain ⟨s0, s1, s2, s3, s4⟩ := hSw; go_simp)⟩) hHeld3 ?_
    try simp only [List.getElem_toArray, List.getElem_cons_zero, List.getElem_cons_succ, Act.put, List.setIfInBounds_toArray, List.set_cons_zero, List.set_cons_succ]
    refine wpAnyH_done (by kernel_rfl) ?_ _
    go_wp2_with fail
    refine bodyPost_ret (v := .tuple #[.agg #[.int .i64 (bits .xor .i64 fk 32), .int .i64 k1, .int .i64 fa], .agg #[.int .i64 fk, .int .i64 fa], .int .i64 0]) ?_ rfl ⟨⟨_, _, _, _, _, rfl, .inl ⟨rfl, by unfold foundF'; rw [if_neg (by decide), if_neg (by decide), if_pos rfl, if_neg hf]⟩⟩, Ext.setRow (Ext.setRow (DX.out.trans (Ext.drew _)) (by omega) _) (by omega) _⟩
    exact results_two_rows rfl _ _ (w.heap.size + 1 + 1) (w.heap.size + 1 + 1 + 1) 80 26 _ _ _ _ _ _ _ rfl rfl rfl (Blk.setRow_other (Blk.setRow (D4.out.ext (Ext.drew _)) _) _ (by omega)) (Blk.setRow (Blk.setRow_other (D5.out.ext (Ext.drew _)) _ (by omega)) _) Try.underlying80 rfl move_info Try.underlying26 rfl find_info
  · have h1 : ¬ (k4 = 102 ∨ k4 = 70 ∨ k4 = 116 ∨ k4 = 84) := by simp_all
    have h2 : ¬ k4 = 59 := by simp_all
    have h3 : ¬ k4 = 44 := by simp_all
    have hSw : ∀ wx, Blk wx (w.heap.size + 1 + 1 + 1 + 1) 80 #[.int .i64 k4, .int .i64 k1, .int .i64 k5] → Blk wx (w.heap.size) 26 #[.int .i64 fk, .int .i64 fa] → wx.cell? ⟨w.heap.size + 1 + 1 + 1 + 1, 0, none⟩ = some (.int .i64 k4) ∧ wx.cell? ⟨w.heap.size + 1 + 1 + 1 + 1, 1, none⟩ = some (.int .i64 k1) ∧ wx.cell? ⟨w.heap.size + 1 + 1 + 1 + 1, 2, none⟩ = some (.int .i64 k5) ∧ wx.cell? ⟨w.heap.size, 0, none⟩ = some (.int .i64 fk) ∧ wx.cell? ⟨w.heap.size, 1, none⟩ = some (.int .i64 fa) := fun wx h7 h2 => ⟨(cells3 h7).1, (cells3 h7).2.1, (cells3 h7).2.2, (cells2L h2).1, (cells2L h2).2⟩
    have hS0 := Lib.hid (hSw _ (B7.out.ext (Ext.drew W0)) (B2.out.ext (Ext.drew W0)))
    have hS1 := Lib.hid (hSw _ (Blk.setRow_other (B7.out.ext (Ext.drew W0)) #[.int .i64 k4, .int .i64 k1, .int .i64 k5] (show w.heap.size + 1 + 1 + 1 + 1 ≠ w.heap.size + 1 + 1 by omega)) (Blk.setRow_other (B2.out.ext (Ext.drew W0)) #[.int .i64 k4, .int .i64 k1, .int .i64 k5] (show w.heap.size ≠ w.heap.size + 1 + 1 by omega)))
    have hS2 := Lib.hid (hSw _ (Blk.setRow_other (Blk.setRow_other (B7.out.ext (Ext.drew W0)) #[.int .i64 k4, .int .i64 k1, .int .i64 k5] (show w.heap.size + 1 + 1 + 1 + 1 ≠ w.heap.size + 1 + 1 by omega)) #[.int .i64 fk, .int .i64 fa] (show w.heap.size + 1 + 1 + 1 + 1 ≠ w.heap.size + 1 + 1 + 1 by omega)) (Blk.setRow_other (Blk.setRow_other (B2.out.ext (Ext.drew W0)) #[.int .i64 k4, .int .i64 k1, .int .i64 k5] (show w.heap.size ≠ w.heap.size + 1 + 1 by omega)) #[.int .i64 fk, .int .i64 fa] (show w.heap.size ≠ w.heap.size + 1 + 1 + 1 by omega)))
    clear hSw
    refine wp_region_held_drew (S := fun w' => w'.cell? ⟨w.heap.size + 1 + 1 + 1 + 1, 0, none⟩ = some (.int .i64 k4) ∧ w'.cell? ⟨w.heap.size + 1 + 1 + 1 + 1, 1, none⟩ = some (.int .i64 k1) ∧ w'.cell? ⟨w.heap.size + 1 + 1 + 1 + 1, 2, none⟩ = some (.int .i64 k5) ∧ w'.cell? ⟨w.heap.size, 0, none⟩ = some (.int .i64 fk) ∧ w'.cell? ⟨w.heap.size, 1, none⟩ = some (.int .i64 fa)) (by kernel_rfl) hS0.out (fun hHeld => ?_)
    refine wpAnyH_take (i := 0) (v := (.agg #[.int .i64 k4, .int .i64 k1, .int .i64 k5])) rfl (by kernel_rfl) (by kernel_rfl) (by kernel_rfl) (fun _ _ _ h => h) (Or.inl ⟨by rfl, by (intro w hSw; obtain ⟨s0, s1, s2, s3, s4⟩ := hSw; go_simp)⟩) hHeld ?_
    try simp only [List.getElem_toArray, List.getElem_cons_zero, List.getElem_cons_succ, Act.put, List.setIfInBounds_toArray, List.set_cons_zero, List.set_cons_succ]
    refine wpAnyH_take (i := 1) (v := (.agg #[.int .i64 fk, .int .i64 fa])) rfl (by kernel_rfl) (by kernel_rfl) (by kernel_rfl) (fun _ _ _ h => h) (Or.inl ⟨by rfl, by (intro w hSw; obtain ⟨s0, s1, s2, s3, s4⟩ := hSw; go_simp)⟩) hHeld ?_
    try simp only [List.getElem_toArray, List.getElem_cons_zero, List.getElem_cons_succ, Act.put, List.setIfInBounds_toArray, List.set_cons_zero, List.set_cons_succ]
    refine wpAnyH_ready (rs := [2]) (by kernel_rfl) (by simp) ?_
    refine AllReadyH.cons rfl (fun K hK => ?_) AllReadyH.nil
    refine step_store_at rfl 80 (.tmp 4) (.tmp 49) rfl (w.heap.size + 1 + 1) 0 #[.int .i64 k4, .int .i64 k1, .int .i64 k5] rfl rfl 80 #[.int .i64 0, .int .i64 0, .int .i64 0] (B4.out.ext (Ext.drew _)) move_info (Nat.le_refl _) (by simp [Value.oneCell']) ?_
    refine hK.out _ _ hS1.out (fun hHeld2 => ?_)
    clear hK K hHeld
    try simp only [List.getElem_toArray, List.getElem_cons_zero, List.getElem_cons_succ, Act.put, List.setIfInBounds_toArray, List.set_cons_zero, List.set_cons_succ]
    refine wpAnyH_ready (rs := [3]) (by kernel_rfl) (by simp) ?_
    refine AllReadyH.cons rfl (fun K hK => ?_) AllReadyH.nil
    refine step_store_at rfl 26 (.tmp 5) (.tmp 50) rfl (w.heap.size + 1 + 1 + 1) 0 #[.int .i64 fk, .int .i64 fa] rfl rfl 26 #[.int .i64 0, .int .i64 0] (Blk.setRow_other (B5.out.ext (Ext.drew _)) _ (by omega)) find_info (Nat.le_refl _) (by simp [Value.oneCell']) ?_
    refine hK.out _ _ hS2.out (fun hHeld3 => ?_)
    clear hK K hHeld2
    try simp only [List.getElem_toArray, List.getElem_cons_zero, List.getElem_cons_succ, Act.put, List.setIfInBounds_toArray, List.set_cons_zero, List.set_cons_succ]
    refine wpAnyH_take (i := 4) (v := (.int .i64 0)) rfl (by kernel_rfl) (by kernel_rfl) (by kernel_rfl) (fun _ _ _ h => h) (Or.inl ⟨by rfl, by (intro w hSw; obtain ⟨s0, s1, s2, s3, s4⟩ := hSw; go_simp)⟩) hHeld3 ?_
    try simp only [List.getElem_toArray, List.getElem_cons_zero, List.getElem_cons_succ, Act.put, List.setIfInBounds_toArray, List.set_cons_zero, List.set_cons_succ]
    refine wpAnyH_done (by kernel_rfl) ?_ _
    go_wp2_with fail
    refine bodyPost_ret (v := .tuple #[.agg #[.int .i64 k4, .int .i64 k1, .int .i64 k5], .agg #[.int .i64 fk, .int .i64 fa], .int .i64 0]) ?_ rfl ⟨⟨_, _, _, _, _, rfl, .inl ⟨rfl, by unfold foundF'; rw [if_neg h1, if_neg h2, if_neg h3]⟩⟩, Ext.setRow (Ext.setRow (HX.out.trans (Ext.drew _)) (by omega) _) (by omega) _⟩
    exact results_two_rows rfl _ _ (w.heap.size + 1 + 1) (w.heap.size + 1 + 1 + 1) 80 26 _ _ _ _ _ _ _ rfl rfl rfl (Blk.setRow_other (Blk.setRow (B4.out.ext (Ext.drew _)) _) _ (by omega)) (Blk.setRow (Blk.setRow_other (B5.out.ext (Ext.drew _)) _ (by omega)) _) Try.underlying80 rfl move_info Try.underlying26 rfl find_info
end Go.Proofs.Ytmhgndjmcignjaa
