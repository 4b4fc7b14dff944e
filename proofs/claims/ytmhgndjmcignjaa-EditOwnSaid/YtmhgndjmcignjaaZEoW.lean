/-
  The walk of the statement that a line and registers that are handed in stay.
-/
import Derived.Test.YtmhgndjmcignjaaZEoA
import Derived.Test.YtmhgndjmcignjaaZJ10
import Derived.Test.YtmhgndjmcignjaaZJ1

namespace Go.Proofs.Ytmhgndjmcignjaa
open Go.RowKit
set_option linter.unusedVariables false
set_option linter.unusedSimpArgs false

theorem eow_start (w : World) (A : Option Addr) (n c : Nat) (a k1 k2 k3 k4 k5 : Int) (cs : Array Value) : ∃ w0, w0 = (((w.alloc (.cells #[.slice A n c, .int .i64 a] 24)).alloc (.cells cs 30)).alloc (.cells #[.int .i64 k1, .int .i64 k2, .int .i64 k3, .int .i64 k4, .int .i64 k5] 28)) ∧ Ext w w0 ∧
    Blk w0 w.heap.size 24 #[.slice A n c, .int .i64 a] ∧ Blk w0 (w.heap.size + 1) 30 cs ∧ Blk w0 (w.heap.size + 1 + 1) 28 #[.int .i64 k1, .int .i64 k2, .int .i64 k3, .int .i64 k4, .int .i64 k5] := by
  have h1 := Blk.new w 24 #[.slice A n c, .int .i64 a]
  have x1 := Ext.alloc w (.cells #[.slice A n c, .int .i64 a] 24)
  have z1 : (w.alloc (.cells #[.slice A n c, .int .i64 a] 24)).heap.size = w.heap.size + 1 := by simp
  generalize w.alloc (.cells #[.slice A n c, .int .i64 a] 24) = W1 at *
  have h2 := Blk.new W1 30 cs
  have x2 := Ext.alloc W1 (.cells cs 30)
  have z2 : (W1.alloc (.cells cs 30)).heap.size = w.heap.size + 1 + 1 := by simp [z1]
  rw [z1] at h2
  generalize W1.alloc (.cells cs 30) = W2 at *
  have h3 := Blk.new W2 28 #[.int .i64 k1, .int .i64 k2, .int .i64 k3, .int .i64 k4, .int .i64 k5]
  have x3 := Ext.alloc W2 (.cells #[.int .i64 k1, .int .i64 k2, .int .i64 k3, .int .i64 k4, .int .i64 k5] 28)
  rw [z2] at h3
  exact ⟨_, rfl, (x1.trans x2).trans x3, Blk.ext h1 (x2.trans x3), Blk.ext h2 x3, h3⟩
theorem Amp.far {w w' : World} {b : Nat} {v : Value} {l : List Int} {x : Int} {g t : Nat} {cs : Array Value} (h : Amp w b v l x) (hg : w.grownBy w' (some g)) (hb : Blk w g t cs) (hne : t ≠ 3) : Amp w' b v l x := by
  obtain ⟨A, n, c, rfl, h1, h2⟩ := h
  refine ⟨A, n, c, rfl, Own.kept h1 hg ?_, h2⟩
  cases hk : (Value.slice (some A) (n + 2) c).ownBlock with
  | none => exact .inl rfl
  | some k => exact .inr (fun e => own_ne_blk h1 hb hne k hk (by injection e))
theorem laid_line (w : World) (vs : Array Value) : Ext w ((w.alloc (.cells #[.slice none 0 0, .int .i64 0] 24)).setRow w.heap.size vs) ∧ Blk ((w.alloc (.cells #[.slice none 0 0, .int .i64 0] 24)).setRow w.heap.size vs) w.heap.size 24 vs :=
  ⟨Ext.setRow (Ext.alloc w _) (Nat.le_refl _) _, Blk.setRow (Blk.new w 24 #[.slice none 0 0, .int .i64 0]) vs⟩
theorem wpList_load_atw {P : Program} {ops : Array Oper} {rest : List Oper} {o : Oper} {a : Act} {w : World} {Q : Exit → Act → World → Prop} (hw : Region.wanted o (yielded ops a.tmps) = true) (ty : TypeId) (x : Operand) (ho : o.op = .load ty x)
    (g off : Nat) (hx : a.eval x = .pointer (some ⟨g, off, none⟩)) (t : TypeId) (cs vs : Array Value) (fr : Nat × Nat) (d : TypeDesc) (hg : w.heap[g]? = some (.cells cs t fr)) (hv : ∀ j v, vs[j]? = some v → cs[off + j]? = some v)
    (hu : P.underlying ty = some d) (hd : (match d with | .struct _ | .array _ _ => true | _ => false) = true) (hi : (P.info? ty).map (·.size) = some vs.size)
    (h : wpList P ops Q rest (a.put o.dst (.agg vs)) w) : wpList P ops Q (o :: rest) a w := by
  unfold wpList
  rw [if_pos hw]
  refine .inl ?_
  unfold Oper.wp execOp
  simp only [ho, hx, Instr.loadAt, Instr.sureAddr, Sem.run_bind, Sem.run_pure, Result.andThen_ok, run_loadVar_at w g off t ty cs vs fr d hg hv hu hd hi]
  exact h
theorem ResIs.grownO {w w' : World} {b : Nat} {vs : Array Value} {m : List Int} {at_ md fk fa : Int} {rl : Nat → List Int} {e : List Spl} (h : ResIs w b vs m at_ md fk fa rl e) {o : Option Nat} (hg : w.grownBy w' o) (hb : ∀ g, o = some g → g < b) (h0 : 0 < b) : ResIs w' b vs m at_ md fk fa rl e := by
  cases o with
  | none => exact h.grown (g := 0) ⟨hg.os, hg.tape, hg.output, hg.size, fun k hk _ => hg.block k hk (by simp)⟩ h0
  | some g => exact h.grown hg (hb g rfl)
/-- What the spoils keep. -/
structure EoInv (w : World) (b0 lo pR : Nat) (a' : Array Value) (W0 W : World) : Prop where
  low : GrowLow b0 W0 W
  reg : Blk W pR 30 a'
  rows : ∀ j, j < 27 → ∃ v, a'[j]? = some v ∧ RowB W v lo b0
  ext : Ext w W
theorem EoInv.step {w : World} {b0 lo pR : Nat} {a' : Array Value} {W0 W W' : World} {g : Nat} (h : EoInv w b0 lo pR a' W0 W) (hlo : w.heap.size ≤ lo) (hb : lo ≤ g ∧ g < b0) (hg : W.grownBy W' (some g)) (hc : ∃ cs, Blk W g 3 cs) (hr : ∀ v2 a2 b2, RowB W v2 a2 b2 → RowB W' v2 a2 b2) : EoInv w b0 lo pR a' W0 W' where
  low := h.low.step hg hb.2
  reg := h.reg.grown hg (fun e => by
    injection e with e
    subst e
    obtain ⟨cs, h1⟩ := hc
    have h2 := h.reg
    unfold Blk at h1 h2
    rw [h1] at h2
    injection h2 with h2
    injection h2 with _ h2
    exact absurd h2 (by decide))
  rows := fun j hj => let ⟨v, h1, h2⟩ := h.rows j hj; ⟨v, h1, hr _ _ _ h2⟩
  ext := ext_spoilt h.ext hg (Nat.le_trans hlo hb.1)
theorem ampr_regs {w : World} {b : Nat} {a : Array Value} {rs : Nat → List Int} (hs : a.size = 27) (h : ∀ j, j < 27 → ∃ v, a[j]? = some v ∧ Amp w b v (rs j) 77) (hz : ∀ i, i < 27 → (rs i).length * 8 ≤ 140737488351232) : Regs w a rs :=
  ⟨hs, fun i hi => by
    obtain ⟨v, h1, h2⟩ := h i hi
    obtain ⟨A, n, c, rfl, h3, _⟩ := h2.ints
    refine ⟨_, h1, some A, n, c, rfl, h3, nofun, ?_⟩
    have h4 := h3.len
    have h5 := hz i hi
    omega⟩

set_option maxRecDepth 20000 in
set_option maxHeartbeats 8000000 in
theorem editOwn_walk {w : World} {A : Option Addr} {n c : Nat} {a k1 k2 k3 k4 k5 key : Int} {l : List Int} {cs : Array Value} {rs : Nat → List Int} (hl : Ints w A n c l) (wl : ∀ x ∈ l, (Lit.int .i64 x).wf = true) (hA0 : A = none → c = 0) (hn : n * 8 ≤ 140737488351232) (hr : Regs w cs rs) (hrz : ∀ i, i < 27 → (rs i).length * 8 ≤ 140737488351232) :
    Calls Try.prog 7 #[.agg #[.slice A n c, .int .i64 a], .agg cs, .agg #[.int .i64 k1, .int .i64 k2, .int .i64 k3, .int .i64 k4, .int .i64 k5], .int .i64 key] w fun e w' => e = .returned (.bool true) ∧ Ext w w' := by
  obtain ⟨m, at_, md, zk, za, rl', ed, hDo⟩ := do_fix l rs a 0 0 k1 k2 k3 k4 k5
  obtain ⟨km, ka, hKey⟩ := key_fix l a key
  have HOf := fun w => Lib.hid (of_ok ⟨#[97, 98]⟩ w (by decide))
  have HL := Lib.hid hl
  have HWl := Lib.hid wl
  have HR := Lib.hid hr
  have HRz := Lib.hid hr.1
  have HRn := Lib.hid hrz
  have HOne := Lib.hid hr.one
  have hln := Lib.hid hl.len
  have HN := Lib.hid hn
  rw [hl.len] at hDo hKey
  have HDo := Lib.hid hDo
  have HKey := Lib.hid hKey
  clear hDo hKey hl hA0 wl hr hrz hn
  obtain ⟨w0, hw0, hx0, hb3, hb4, hb5⟩ := eow_start w A n c a k1 k2 k3 k4 k5 cs
  have HW := Lib.hid hw0
  have HX0 := Lib.hid hx0
  have B4 := Lib.hid hb3
  have B5 := Lib.hid hb4
  have B6 := Lib.hid hb5
  clear hw0 hx0 hb3 hb4 hb5
  go_enter Try.func7, Try.ntmps7
  go_upto_region 1 with fail
  change Code.wp _ _ _ _ (((w.alloc (.cells #[.slice A n c, .int .i64 a] 24)).alloc (.cells cs 30)).alloc (.cells #[.int .i64 k1, .int .i64 k2, .int .i64 k3, .int .i64 k4, .int .i64 k5] 28))
  rw [← HW.out]
  clear HW
  go_wp2_with fail
  refine ((HOf _).out).mono ?_
  rintro e w1 ⟨T1, d1, rfl, ho1, he1⟩
  have hz2 : (⟨#[97, 98]⟩ : ByteArray).size = 2 := rfl
  rw [hz2] at ho1
  have HD1 := Lib.hid (do_full (a := 0) (fk := 0) (fa := 0) (k1 := 0) (k2 := 0) (k3 := 0) (k4 := 120) (k5 := 0) ho1.ints (by decide +kernel) (Own.nocap ho1) (noRegs_regs w1))
  rw [noRegs_lit] at HD1
  rw [hz2]
  have HX1 := Lib.hid (HX0.out.trans he1)
  have C4 := Lib.hid (B4.out.ext he1)
  have C5 := Lib.hid (B5.out.ext he1)
  have C6 := Lib.hid (B6.out.ext he1)
  clear ho1 he1 HX0 B4 B5 B6 hz2 HOf
  go_wp2_with fail
  refine HD1.out.mono ?_
  rintro e w2 ⟨hx2, ⟨hno, _⟩ | ⟨vs1, m1, at1, md1, zk1, za1, rl1, ed1, rfl, _, hres1, hrel1⟩⟩
  · exact absurd abX_ok hno
  obtain ⟨hm1, _⟩ := abX_res hrel1
  obtain ⟨S1, q1, e1, hv0, ho0⟩ := hres1.text
  rw [hm1] at ho0
  have hq1 : q1 = 1 := by rw [← ho0.ints.len]; rfl
  subst hq1
  have HS1 := Lib.hid hres1.size
  have HOn1 := Lib.hid hres1.one
  have HV := Lib.hid hv0
  have HX2 := Lib.hid (HX1.out.trans hx2)
  have D4 := Lib.hid (C4.out.ext hx2)
  have D5 := Lib.hid (C5.out.ext hx2)
  have D6 := Lib.hid (C6.out.ext hx2)
  clear hx2 HD1 hres1 hrel1 hm1 hv0 ho0 HX1 C4 C5 C6
  go_upto_region 2 with (refine wpList_store_row rfl 33 (.tmp 9) _ rfl w2.heap.size vs1 rfl rfl 33 resZ (Blk.new w2 _ resZ) (res_size HS1.out) (by rw [HS1.out]; rfl) HOn1.out ?_)
  change Code.wp _ _ _ _ ((w2.alloc (.cells resZ 33)).setRow w2.heap.size vs1)
  obtain ⟨hx3, hb3⟩ := laid_res w2 vs1
  generalize (w2.alloc (.cells resZ 33)).setRow w2.heap.size vs1 = w3 at *
  have HX3 := Lib.hid (HX2.out.trans hx3)
  have E4 := Lib.hid (D4.out.ext hx3)
  have E5 := Lib.hid (D5.out.ext hx3)
  have E6 := Lib.hid (D6.out.ext hx3)
  have c6 : w3.cell? ⟨w2.heap.size, 0, none⟩ = some (.slice S1 1 e1) := (hb3.cell 0).trans HV.out
  clear hx3 hb3 HX2 D4 D5 D6 HOn1 HS1 HV
  go_upto_region 4 with fail
  clear c6
  have HSS : Hid (∀ W, Ext w3 W → W.cell? ⟨w.heap.size, 0, none⟩ = some (.slice A n c) ∧ W.cell? ⟨w.heap.size, 1, none⟩ = some (.int .i64 a) ∧ Blk W (w.heap.size + 1) 30 cs) := Lib.hid fun W he => ⟨he.cell (cells2L E4.out).1, he.cell (cells2L E4.out).2, E5.out.ext he⟩
  have HAm : Hid (∀ W, Ext w3 W → Calls Try.prog 13 #[.slice A n c, .int .i64 77] W fun e w' => ∃ v, e = .returned v ∧ Amp w' W.heap.size v l 77 ∧ Ext W w') := Lib.hid fun W he => ample_ok (HL.out.ext (HX3.out.trans he)) HN.out
  go_cut [11, 12] (fun v11 v12 wx => ∃ pL pR At n1 c1, v11 = .pointer (some ⟨pL, 0, none⟩) ∧ v12 = .pointer (some ⟨pR, 0, none⟩) ∧ w3.heap.size ≤ pL ∧ w3.heap.size ≤ pR ∧ pL ≠ pR ∧ Hid (Blk wx pL 24 #[.slice (some At) n1 c1, .int .i64 a]) ∧ Hid (Blk wx pR 30 cs) ∧ Hid (Amp wx w3.heap.size (.slice (some At) n1 c1) l 77) ∧ Hid (Ext w3 wx))
  case first =>
    refine wp_region_held_drew (S := fun w' => w'.cell? ⟨w.heap.size, 0, none⟩ = some (.slice A n c) ∧ w'.cell? ⟨w.heap.size, 1, none⟩ = some (.int .i64 a) ∧ Blk w' (w.heap.size + 1) 30 cs) (by kernel_rfl) (HSS.out _ (Ext.drew w3)) (fun hHeld => ?_)
    refine wpAnyH_take (i := 0) (v := (.pointer (some ⟨w.heap.size, 0, none⟩))) rfl (by kernel_rfl) (by kernel_rfl) (by kernel_rfl) (fun _ _ _ h => h) (Or.inl ⟨by rfl, by (intro w hSw; obtain ⟨s0, s1, s2⟩ := hSw; go_simp)⟩) hHeld ?_
    try simp only [List.getElem_toArray, List.getElem_cons_zero, List.getElem_cons_succ, Act.put, List.setIfInBounds_toArray, List.set_cons_zero, List.set_cons_succ]
    refine wpAnyH_take (i := 1) (v := (.slice A n c)) rfl (by kernel_rfl) (by kernel_rfl) (by kernel_rfl) (fun _ _ _ h => h) (Or.inl ⟨by rfl, by (intro w hSw; obtain ⟨s0, s1, s2⟩ := hSw; go_simp)⟩) hHeld ?_
    try simp only [List.getElem_toArray, List.getElem_cons_zero, List.getElem_cons_succ, Act.put, List.setIfInBounds_toArray, List.set_cons_zero, List.set_cons_succ]
    refine wpAnyH_take (i := 3) (v := (.pointer (some ⟨w.heap.size, 1, none⟩))) rfl (by kernel_rfl) (by kernel_rfl) (by kernel_rfl) (fun _ _ _ h => h) (Or.inl ⟨by rfl, by (intro w hSw; obtain ⟨s0, s1, s2⟩ := hSw; go_simp)⟩) hHeld ?_
    try simp only [List.getElem_toArray, List.getElem_cons_zero, List.getElem_cons_succ, Act.put, List.setIfInBounds_toArray, List.set_cons_zero, List.set_cons_succ]
    refine wpAnyH_take (i := 4) (v := (.int .i64 a)) rfl (by kernel_rfl) (by kernel_rfl) (by kernel_rfl) (fun _ _ _ h => h) (Or.inl ⟨by rfl, by (intro w hSw; obtain ⟨s0, s1, s2⟩ := hSw; go_simp)⟩) hHeld ?_
    try simp only [List.getElem_toArray, List.getElem_cons_zero, List.getElem_cons_succ, Act.put, List.setIfInBounds_toArray, List.set_cons_zero, List.set_cons_succ]
    refine wpAnyH_take (i := 6) (v := (.agg cs)) rfl (by kernel_rfl) (by kernel_rfl) (by kernel_rfl) (fun _ _ _ h => h) (Or.inl ⟨by rfl, by (intro w hSw; obtain ⟨s0, s1, s2⟩ := hSw; exact run_load_at rfl 30 (.tmp 5) rfl _ 0 rfl 30 cs cs (0, 0) _ s2 (fun j v hj => by rw [Nat.zero_add]; exact hj) Try.underlying30 rfl (regs_size HRz.out))⟩) hHeld ?_
    try simp only [List.getElem_toArray, List.getElem_cons_zero, List.getElem_cons_succ, Act.put, List.setIfInBounds_toArray, List.set_cons_zero, List.set_cons_succ]
    have hx : Ext w3 w3.drew := Ext.drew w3
    generalize w3.drew = W0 at *
    refine wpAnyH_ready (rs := [2, 7, 8]) (by kernel_rfl) (by simp) ?_
    refine AllReadyH.cons rfl (fun K hK => ?_) (AllReadyH.cons rfl (fun K hK => ?_) (AllReadyH.cons rfl (fun K hK => ?_) (AllReadyH.nil)))
    · refine step_callf rfl 13 #[.slice A n c, .int .i64 77] rfl (by kernel_rfl) (fun v w' => ∃ (At : Addr) (n1 c1 : Nat), v = .slice (some At) n1 c1 ∧ Amp w' W0.heap.size (.slice (some At) n1 c1) l 77 ∧ Ext W0 w') ((HAm.out _ hx).mono fun e w' ⟨v, h1, h2, h3⟩ => by obtain ⟨At, n1, c1, rfl, h4, h5⟩ := h2; exact ⟨_, h1, At, n1, c1, rfl, ⟨At, n1, c1, rfl, h4, h5⟩, h3⟩) ?_
      rintro v W1 ⟨At, n1, c1, rfl, hA, hxc⟩
      replace hA := hA.lower hx.hsize
      replace hx := hx.trans hxc
      clear hxc
      refine hK.out _ _ (HSS.out _ hx) (fun hHeld1 => ?_)
      clear hK K hHeld
      try simp only [List.getElem_toArray, List.getElem_cons_zero, List.getElem_cons_succ, Act.put, List.setIfInBounds_toArray, List.set_cons_zero, List.set_cons_succ]
      refine wpAnyH_take (i := 5) (v := (.agg #[.slice (some At) n1 c1, .int .i64 a])) rfl (by kernel_rfl) (by kernel_rfl) (by kernel_rfl) (fun _ _ _ h => h) (Or.inl ⟨by rfl, by (intro w hSw; obtain ⟨s0, s1, s2⟩ := hSw; go_simp)⟩) hHeld1 ?_
      try simp only [List.getElem_toArray, List.getElem_cons_zero, List.getElem_cons_succ, Act.put, List.setIfInBounds_toArray, List.set_cons_zero, List.set_cons_succ]
      refine wpAnyH_ready (rs := [7, 8]) (by kernel_rfl) (by simp) ?_
      refine AllReadyH.cons rfl (fun K hK => ?_) (AllReadyH.cons rfl (fun K hK => ?_) (AllReadyH.nil))
      · go_simp
        change K _ (W1.alloc (.cells #[.slice none 0 0, .int .i64 0] 24))
        replace hA := hA.ext (Ext.alloc W1 (.cells #[.slice none 0 0, .int .i64 0] 24))
        have h11 := Blk.new W1 24 #[.slice none 0 0, .int .i64 0]
        have hpL : w3.heap.size ≤ W1.heap.size := hx.hsize
        replace hx := hx.to_alloc (.cells #[.slice none 0 0, .int .i64 0] 24)
        generalize W1.heap.size = pL at *
        generalize W1.alloc (.cells #[.slice none 0 0, .int .i64 0] 24) = W2 at *
        refine hK.out _ _ (HSS.out _ hx) (fun hHeld2 => ?_)
        clear hK K hHeld1
        try simp only [List.getElem_toArray, List.getElem_cons_zero, List.getElem_cons_succ, Act.put, List.setIfInBounds_toArray, List.set_cons_zero, List.set_cons_succ]
        refine wpAnyH_ready (rs := [8]) (by kernel_rfl) (by simp) ?_
        refine AllReadyH.cons rfl (fun K hK => ?_) (AllReadyH.nil)
        · go_simp
          change K _ (W2.alloc (.cells noRegs 30))
          replace hA := hA.ext (Ext.alloc W2 (.cells noRegs 30))
          have hne : pL ≠ W2.heap.size := by have := h11.lt; omega
          replace h11 := h11.ext (Ext.alloc W2 (.cells noRegs 30))
          have h12 := Blk.new W2 30 noRegs
          have hpR : w3.heap.size ≤ W2.heap.size := hx.hsize
          replace hx := hx.to_alloc (.cells noRegs 30)
          generalize W2.heap.size = pR at *
          generalize W2.alloc (.cells noRegs 30) = W3 at *
          refine hK.out _ _ (HSS.out _ hx) (fun hHeld3 => ?_)
          clear hK K hHeld2
          try simp only [List.getElem_toArray, List.getElem_cons_zero, List.getElem_cons_succ, Act.put, List.setIfInBounds_toArray, List.set_cons_zero, List.set_cons_succ]
          refine wpAnyH_ready (rs := [9]) (by kernel_rfl) (by simp) ?_
          refine AllReadyH.cons rfl (fun K hK => ?_) (AllReadyH.nil)
          · have hne9 : 24 ≠ 3 := by decide
            refine step_store_at rfl 24 (.tmp 11) (.tmp 48) rfl pL 0 #[.slice (some At) n1 c1, .int .i64 a] rfl rfl 24 #[.slice none 0 0, .int .i64 0] h11 line_info (Nat.le_refl _) (by simp [Value.oneCell']) ?_
            change K _ (W3.setRow pL #[.slice (some At) n1 c1, .int .i64 a])
            have hxs : Ext w3 (W3.setRow pL #[.slice (some At) n1 c1, .int .i64 a]) := Ext.setRow hx hpL _
            have hAs : Amp (W3.setRow pL #[.slice (some At) n1 c1, .int .i64 a]) w3.heap.size (.slice (some At) n1 c1) l 77 := hA.far (setRow_grown W3 pL #[.slice (some At) n1 c1, .int .i64 a]) h11 hne9
            have hs11 : Blk (W3.setRow pL #[.slice (some At) n1 c1, .int .i64 a]) pL 24 #[.slice (some At) n1 c1, .int .i64 a] := Blk.setRow h11 _
            have hs12 : Blk (W3.setRow pL #[.slice (some At) n1 c1, .int .i64 a]) pR 30 noRegs := Blk.setRow_other h12 _ (by omega)
            clear hx hA hne9 h11 h12
            generalize W3.setRow pL #[.slice (some At) n1 c1, .int .i64 a] = W4 at *
            have hx := hxs
            have hA := hAs
            have h11 := hs11
            have h12 := hs12
            clear hxs hAs hs11 hs12
            refine hK.out _ _ (HSS.out _ hx) (fun hHeld4 => ?_)
            clear hK K hHeld3
            try simp only [List.getElem_toArray, List.getElem_cons_zero, List.getElem_cons_succ, Act.put, List.setIfInBounds_toArray, List.set_cons_zero, List.set_cons_succ]
            refine wpAnyH_ready (rs := [10]) (by kernel_rfl) (by simp) ?_
            refine AllReadyH.cons rfl (fun K hK => ?_) (AllReadyH.nil)
            · have hne9 : 30 ≠ 3 := by decide
              refine step_store_at rfl 30 (.tmp 12) (.tmp 49) rfl pR 0 cs rfl rfl 30 noRegs h12 (regs_size HRz.out) (by rw [HRz.out]; exact Nat.le_refl _) HOne.out ?_
              rw [seg_all (show cs.size = noRegs.size by rw [HRz.out]; rfl)]
              have hxs : Ext w3 (W4.setRow pR cs) := Ext.setRow hx hpR _
              have hAs : Amp (W4.setRow pR cs) w3.heap.size (.slice (some At) n1 c1) l 77 := hA.far (setRow_grown W4 pR cs) h12 hne9
              have hs12 : Blk (W4.setRow pR cs) pR 30 cs := Blk.setRow h12 _
              have hs11 : Blk (W4.setRow pR cs) pL 24 #[.slice (some At) n1 c1, .int .i64 a] := Blk.setRow_other h11 _ (by omega)
              clear hx hA hne9 h12 h11
              generalize W4.setRow pR cs = W5 at *
              have hx := hxs
              have hA := hAs
              have h12 := hs12
              have h11 := hs11
              clear hxs hAs hs12 hs11
              refine hK.out _ _ (HSS.out _ hx) (fun hHeld5 => ?_)
              clear hK K hHeld4
              try simp only [List.getElem_toArray, List.getElem_cons_zero, List.getElem_cons_succ, Act.put, List.setIfInBounds_toArray, List.set_cons_zero, List.set_cons_succ]
              refine wpAnyH_done (by kernel_rfl) ?_ _
              try go_wp2_with fail
              go_meet
              exact ⟨pL, pR, At, n1, c1, rfl, rfl, hpL, hpR, hne, Lib.hid h11, Lib.hid h12, Lib.hid hA, Lib.hid hx⟩
      · go_simp
        change K _ (W1.alloc (.cells noRegs 30))
        replace hA := hA.ext (Ext.alloc W1 (.cells noRegs 30))
        have h12 := Blk.new W1 30 noRegs
        have hpR : w3.heap.size ≤ W1.heap.size := hx.hsize
        replace hx := hx.to_alloc (.cells noRegs 30)
        generalize W1.heap.size = pR at *
        generalize W1.alloc (.cells noRegs 30) = W2 at *
        refine hK.out _ _ (HSS.out _ hx) (fun hHeld2 => ?_)
        clear hK K hHeld1
        try simp only [List.getElem_toArray, List.getElem_cons_zero, List.getElem_cons_succ, Act.put, List.setIfInBounds_toArray, List.set_cons_zero, List.set_cons_succ]
        refine wpAnyH_ready (rs := [7]) (by kernel_rfl) (by simp) ?_
        refine AllReadyH.cons rfl (fun K hK => ?_) (AllReadyH.nil)
        · go_simp
          change K _ (W2.alloc (.cells #[.slice none 0 0, .int .i64 0] 24))
          replace hA := hA.ext (Ext.alloc W2 (.cells #[.slice none 0 0, .int .i64 0] 24))
          have hne : W2.heap.size ≠ pR := by have := h12.lt; omega
          replace h12 := h12.ext (Ext.alloc W2 (.cells #[.slice none 0 0, .int .i64 0] 24))
          have h11 := Blk.new W2 24 #[.slice none 0 0, .int .i64 0]
          have hpL : w3.heap.size ≤ W2.heap.size := hx.hsize
          replace hx := hx.to_alloc (.cells #[.slice none 0 0, .int .i64 0] 24)
          generalize W2.heap.size = pL at *
          generalize W2.alloc (.cells #[.slice none 0 0, .int .i64 0] 24) = W3 at *
          refine hK.out _ _ (HSS.out _ hx) (fun hHeld3 => ?_)
          clear hK K hHeld2
          try simp only [List.getElem_toArray, List.getElem_cons_zero, List.getElem_cons_succ, Act.put, List.setIfInBounds_toArray, List.set_cons_zero, List.set_cons_succ]
          refine wpAnyH_ready (rs := [9]) (by kernel_rfl) (by simp) ?_
          refine AllReadyH.cons rfl (fun K hK => ?_) (AllReadyH.nil)
          · have hne9 : 24 ≠ 3 := by decide
            refine step_store_at rfl 24 (.tmp 11) (.tmp 48) rfl pL 0 #[.slice (some At) n1 c1, .int .i64 a] rfl rfl 24 #[.slice none 0 0, .int .i64 0] h11 line_info (Nat.le_refl _) (by simp [Value.oneCell']) ?_
            change K _ (W3.setRow pL #[.slice (some At) n1 c1, .int .i64 a])
            have hxs : Ext w3 (W3.setRow pL #[.slice (some At) n1 c1, .int .i64 a]) := Ext.setRow hx hpL _
            have hAs : Amp (W3.setRow pL #[.slice (some At) n1 c1, .int .i64 a]) w3.heap.size (.slice (some At) n1 c1) l 77 := hA.far (setRow_grown W3 pL #[.slice (some At) n1 c1, .int .i64 a]) h11 hne9
            have hs11 : Blk (W3.setRow pL #[.slice (some At) n1 c1, .int .i64 a]) pL 24 #[.slice (some At) n1 c1, .int .i64 a] := Blk.setRow h11 _
            have hs12 : Blk (W3.setRow pL #[.slice (some At) n1 c1, .int .i64 a]) pR 30 noRegs := Blk.setRow_other h12 _ (by omega)
            clear hx hA hne9 h11 h12
            generalize W3.setRow pL #[.slice (some At) n1 c1, .int .i64 a] = W4 at *
            have hx := hxs
            have hA := hAs
            have h11 := hs11
            have h12 := hs12
            clear hxs hAs hs11 hs12
            refine hK.out _ _ (HSS.out _ hx) (fun hHeld4 => ?_)
            clear hK K hHeld3
            try simp only [List.getElem_toArray, List.getElem_cons_zero, List.getElem_cons_succ, Act.put, List.setIfInBounds_toArray, List.set_cons_zero, List.set_cons_succ]
            refine wpAnyH_ready (rs := [10]) (by kernel_rfl) (by simp) ?_
            refine AllReadyH.cons rfl (fun K hK => ?_) (AllReadyH.nil)
            · have hne9 : 30 ≠ 3 := by decide
              refine step_store_at rfl 30 (.tmp 12) (.tmp 49) rfl pR 0 cs rfl rfl 30 noRegs h12 (regs_size HRz.out) (by rw [HRz.out]; exact Nat.le_refl _) HOne.out ?_
              rw [seg_all (show cs.size = noRegs.size by rw [HRz.out]; rfl)]
              have hxs : Ext w3 (W4.setRow pR cs) := Ext.setRow hx hpR _
              have hAs : Amp (W4.setRow pR cs) w3.heap.size (.slice (some At) n1 c1) l 77 := hA.far (setRow_grown W4 pR cs) h12 hne9
              have hs12 : Blk (W4.setRow pR cs) pR 30 cs := Blk.setRow h12 _
              have hs11 : Blk (W4.setRow pR cs) pL 24 #[.slice (some At) n1 c1, .int .i64 a] := Blk.setRow_other h11 _ (by omega)
              clear hx hA hne9 h12 h11
              generalize W4.setRow pR cs = W5 at *
              have hx := hxs
              have hA := hAs
              have h12 := hs12
              have h11 := hs11
              clear hxs hAs hs12 hs11
              refine hK.out _ _ (HSS.out _ hx) (fun hHeld5 => ?_)
              clear hK K hHeld4
              try simp only [List.getElem_toArray, List.getElem_cons_zero, List.getElem_cons_succ, Act.put, List.setIfInBounds_toArray, List.set_cons_zero, List.set_cons_succ]
              refine wpAnyH_done (by kernel_rfl) ?_ _
              try go_wp2_with fail
              go_meet
              exact ⟨pL, pR, At, n1, c1, rfl, rfl, hpL, hpR, hne, Lib.hid h11, Lib.hid h12, Lib.hid hA, Lib.hid hx⟩
    · go_simp
      change K _ (W0.alloc (.cells #[.slice none 0 0, .int .i64 0] 24))
      have h11 := Blk.new W0 24 #[.slice none 0 0, .int .i64 0]
      have hpL : w3.heap.size ≤ W0.heap.size := hx.hsize
      replace hx := hx.to_alloc (.cells #[.slice none 0 0, .int .i64 0] 24)
      generalize W0.heap.size = pL at *
      generalize W0.alloc (.cells #[.slice none 0 0, .int .i64 0] 24) = W1 at *
      refine hK.out _ _ (HSS.out _ hx) (fun hHeld1 => ?_)
      clear hK K hHeld
      try simp only [List.getElem_toArray, List.getElem_cons_zero, List.getElem_cons_succ, Act.put, List.setIfInBounds_toArray, List.set_cons_zero, List.set_cons_succ]
      refine wpAnyH_ready (rs := [2, 8]) (by kernel_rfl) (by simp) ?_
      refine AllReadyH.cons rfl (fun K hK => ?_) (AllReadyH.cons rfl (fun K hK => ?_) (AllReadyH.nil))
      · refine step_callf rfl 13 #[.slice A n c, .int .i64 77] rfl (by kernel_rfl) (fun v w' => ∃ (At : Addr) (n1 c1 : Nat), v = .slice (some At) n1 c1 ∧ Amp w' W1.heap.size (.slice (some At) n1 c1) l 77 ∧ Ext W1 w') ((HAm.out _ hx).mono fun e w' ⟨v, h1, h2, h3⟩ => by obtain ⟨At, n1, c1, rfl, h4, h5⟩ := h2; exact ⟨_, h1, At, n1, c1, rfl, ⟨At, n1, c1, rfl, h4, h5⟩, h3⟩) ?_
        rintro v W2 ⟨At, n1, c1, rfl, hA, hxc⟩
        replace hA := hA.lower hx.hsize
        replace hx := hx.trans hxc
        replace h11 := h11.ext hxc
        clear hxc
        refine hK.out _ _ (HSS.out _ hx) (fun hHeld2 => ?_)
        clear hK K hHeld1
        try simp only [List.getElem_toArray, List.getElem_cons_zero, List.getElem_cons_succ, Act.put, List.setIfInBounds_toArray, List.set_cons_zero, List.set_cons_succ]
        refine wpAnyH_take (i := 5) (v := (.agg #[.slice (some At) n1 c1, .int .i64 a])) rfl (by kernel_rfl) (by kernel_rfl) (by kernel_rfl) (fun _ _ _ h => h) (Or.inl ⟨by rfl, by (intro w hSw; obtain ⟨s0, s1, s2⟩ := hSw; go_simp)⟩) hHeld2 ?_
        try simp only [List.getElem_toArray, List.getElem_cons_zero, List.getElem_cons_succ, Act.put, List.setIfInBounds_toArray, List.set_cons_zero, List.set_cons_succ]
        refine wpAnyH_ready (rs := [8]) (by kernel_rfl) (by simp) ?_
        refine AllReadyH.cons rfl (fun K hK => ?_) (AllReadyH.nil)
        · go_simp
          change K _ (W2.alloc (.cells noRegs 30))
          replace hA := hA.ext (Ext.alloc W2 (.cells noRegs 30))
          have hne : pL ≠ W2.heap.size := by have := h11.lt; omega
          replace h11 := h11.ext (Ext.alloc W2 (.cells noRegs 30))
          have h12 := Blk.new W2 30 noRegs
          have hpR : w3.heap.size ≤ W2.heap.size := hx.hsize
          replace hx := hx.to_alloc (.cells noRegs 30)
          generalize W2.heap.size = pR at *
          generalize W2.alloc (.cells noRegs 30) = W3 at *
          refine hK.out _ _ (HSS.out _ hx) (fun hHeld3 => ?_)
          clear hK K hHeld2
          try simp only [List.getElem_toArray, List.getElem_cons_zero, List.getElem_cons_succ, Act.put, List.setIfInBounds_toArray, List.set_cons_zero, List.set_cons_succ]
          refine wpAnyH_ready (rs := [9]) (by kernel_rfl) (by simp) ?_
          refine AllReadyH.cons rfl (fun K hK => ?_) (AllReadyH.nil)
          · have hne9 : 24 ≠ 3 := by decide
            refine step_store_at rfl 24 (.tmp 11) (.tmp 48) rfl pL 0 #[.slice (some At) n1 c1, .int .i64 a] rfl rfl 24 #[.slice none 0 0, .int .i64 0] h11 line_info (Nat.le_refl _) (by simp [Value.oneCell']) ?_
            change K _ (W3.setRow pL #[.slice (some At) n1 c1, .int .i64 a])
            have hxs : Ext w3 (W3.setRow pL #[.slice (some At) n1 c1, .int .i64 a]) := Ext.setRow hx hpL _
            have hAs : Amp (W3.setRow pL #[.slice (some At) n1 c1, .int .i64 a]) w3.heap.size (.slice (some At) n1 c1) l 77 := hA.far (setRow_grown W3 pL #[.slice (some At) n1 c1, .int .i64 a]) h11 hne9
            have hs11 : Blk (W3.setRow pL #[.slice (some At) n1 c1, .int .i64 a]) pL 24 #[.slice (some At) n1 c1, .int .i64 a] := Blk.setRow h11 _
            have hs12 : Blk (W3.setRow pL #[.slice (some At) n1 c1, .int .i64 a]) pR 30 noRegs := Blk.setRow_other h12 _ (by omega)
            clear hx hA hne9 h11 h12
            generalize W3.setRow pL #[.slice (some At) n1 c1, .int .i64 a] = W4 at *
            have hx := hxs
            have hA := hAs
            have h11 := hs11
            have h12 := hs12
            clear hxs hAs hs11 hs12
            refine hK.out _ _ (HSS.out _ hx) (fun hHeld4 => ?_)
            clear hK K hHeld3
            try simp only [List.getElem_toArray, List.getElem_cons_zero, List.getElem_cons_succ, Act.put, List.setIfInBounds_toArray, List.set_cons_zero, List.set_cons_succ]
            refine wpAnyH_ready (rs := [10]) (by kernel_rfl) (by simp) ?_
            refine AllReadyH.cons rfl (fun K hK => ?_) (AllReadyH.nil)
            · have hne9 : 30 ≠ 3 := by decide
              refine step_store_at rfl 30 (.tmp 12) (.tmp 49) rfl pR 0 cs rfl rfl 30 noRegs h12 (regs_size HRz.out) (by rw [HRz.out]; exact Nat.le_refl _) HOne.out ?_
              rw [seg_all (show cs.size = noRegs.size by rw [HRz.out]; rfl)]
              have hxs : Ext w3 (W4.setRow pR cs) := Ext.setRow hx hpR _
              have hAs : Amp (W4.setRow pR cs) w3.heap.size (.slice (some At) n1 c1) l 77 := hA.far (setRow_grown W4 pR cs) h12 hne9
              have hs12 : Blk (W4.setRow pR cs) pR 30 cs := Blk.setRow h12 _
              have hs11 : Blk (W4.setRow pR cs) pL 24 #[.slice (some At) n1 c1, .int .i64 a] := Blk.setRow_other h11 _ (by omega)
              clear hx hA hne9 h12 h11
              generalize W4.setRow pR cs = W5 at *
              have hx := hxs
              have hA := hAs
              have h12 := hs12
              have h11 := hs11
              clear hxs hAs hs12 hs11
              refine hK.out _ _ (HSS.out _ hx) (fun hHeld5 => ?_)
              clear hK K hHeld4
              try simp only [List.getElem_toArray, List.getElem_cons_zero, List.getElem_cons_succ, Act.put, List.setIfInBounds_toArray, List.set_cons_zero, List.set_cons_succ]
              refine wpAnyH_done (by kernel_rfl) ?_ _
              try go_wp2_with fail
              go_meet
              exact ⟨pL, pR, At, n1, c1, rfl, rfl, hpL, hpR, hne, Lib.hid h11, Lib.hid h12, Lib.hid hA, Lib.hid hx⟩
      · go_simp
        change K _ (W1.alloc (.cells noRegs 30))
        have hne : pL ≠ W1.heap.size := by have := h11.lt; omega
        replace h11 := h11.ext (Ext.alloc W1 (.cells noRegs 30))
        have h12 := Blk.new W1 30 noRegs
        have hpR : w3.heap.size ≤ W1.heap.size := hx.hsize
        replace hx := hx.to_alloc (.cells noRegs 30)
        generalize W1.heap.size = pR at *
        generalize W1.alloc (.cells noRegs 30) = W2 at *
        refine hK.out _ _ (HSS.out _ hx) (fun hHeld2 => ?_)
        clear hK K hHeld1
        try simp only [List.getElem_toArray, List.getElem_cons_zero, List.getElem_cons_succ, Act.put, List.setIfInBounds_toArray, List.set_cons_zero, List.set_cons_succ]
        refine wpAnyH_ready (rs := [2]) (by kernel_rfl) (by simp) ?_
        refine AllReadyH.cons rfl (fun K hK => ?_) (AllReadyH.nil)
        · refine step_callf rfl 13 #[.slice A n c, .int .i64 77] rfl (by kernel_rfl) (fun v w' => ∃ (At : Addr) (n1 c1 : Nat), v = .slice (some At) n1 c1 ∧ Amp w' W2.heap.size (.slice (some At) n1 c1) l 77 ∧ Ext W2 w') ((HAm.out _ hx).mono fun e w' ⟨v, h1, h2, h3⟩ => by obtain ⟨At, n1, c1, rfl, h4, h5⟩ := h2; exact ⟨_, h1, At, n1, c1, rfl, ⟨At, n1, c1, rfl, h4, h5⟩, h3⟩) ?_
          rintro v W3 ⟨At, n1, c1, rfl, hA, hxc⟩
          replace hA := hA.lower hx.hsize
          replace hx := hx.trans hxc
          replace h11 := h11.ext hxc
          replace h12 := h12.ext hxc
          clear hxc
          refine hK.out _ _ (HSS.out _ hx) (fun hHeld3 => ?_)
          clear hK K hHeld2
          try simp only [List.getElem_toArray, List.getElem_cons_zero, List.getElem_cons_succ, Act.put, List.setIfInBounds_toArray, List.set_cons_zero, List.set_cons_succ]
          refine wpAnyH_take (i := 5) (v := (.agg #[.slice (some At) n1 c1, .int .i64 a])) rfl (by kernel_rfl) (by kernel_rfl) (by kernel_rfl) (fun _ _ _ h => h) (Or.inl ⟨by rfl, by (intro w hSw; obtain ⟨s0, s1, s2⟩ := hSw; go_simp)⟩) hHeld3 ?_
          try simp only [List.getElem_toArray, List.getElem_cons_zero, List.getElem_cons_succ, Act.put, List.setIfInBounds_toArray, List.set_cons_zero, List.set_cons_succ]
          refine wpAnyH_ready (rs := [9]) (by kernel_rfl) (by simp) ?_
          refine AllReadyH.cons rfl (fun K hK => ?_) (AllReadyH.nil)
          · have hne9 : 24 ≠ 3 := by decide
            refine step_store_at rfl 24 (.tmp 11) (.tmp 48) rfl pL 0 #[.slice (some At) n1 c1, .int .i64 a] rfl rfl 24 #[.slice none 0 0, .int .i64 0] h11 line_info (Nat.le_refl _) (by simp [Value.oneCell']) ?_
            change K _ (W3.setRow pL #[.slice (some At) n1 c1, .int .i64 a])
            have hxs : Ext w3 (W3.setRow pL #[.slice (some At) n1 c1, .int .i64 a]) := Ext.setRow hx hpL _
            have hAs : Amp (W3.setRow pL #[.slice (some At) n1 c1, .int .i64 a]) w3.heap.size (.slice (some At) n1 c1) l 77 := hA.far (setRow_grown W3 pL #[.slice (some At) n1 c1, .int .i64 a]) h11 hne9
            have hs11 : Blk (W3.setRow pL #[.slice (some At) n1 c1, .int .i64 a]) pL 24 #[.slice (some At) n1 c1, .int .i64 a] := Blk.setRow h11 _
            have hs12 : Blk (W3.setRow pL #[.slice (some At) n1 c1, .int .i64 a]) pR 30 noRegs := Blk.setRow_other h12 _ (by omega)
            clear hx hA hne9 h11 h12
            generalize W3.setRow pL #[.slice (some At) n1 c1, .int .i64 a] = W4 at *
            have hx := hxs
            have hA := hAs
            have h11 := hs11
            have h12 := hs12
            clear hxs hAs hs11 hs12
            refine hK.out _ _ (HSS.out _ hx) (fun hHeld4 => ?_)
            clear hK K hHeld3
            try simp only [List.getElem_toArray, List.getElem_cons_zero, List.getElem_cons_succ, Act.put, List.setIfInBounds_toArray, List.set_cons_zero, List.set_cons_succ]
            refine wpAnyH_ready (rs := [10]) (by kernel_rfl) (by simp) ?_
            refine AllReadyH.cons rfl (fun K hK => ?_) (AllReadyH.nil)
            · have hne9 : 30 ≠ 3 := by decide
              refine step_store_at rfl 30 (.tmp 12) (.tmp 49) rfl pR 0 cs rfl rfl 30 noRegs h12 (regs_size HRz.out) (by rw [HRz.out]; exact Nat.le_refl _) HOne.out ?_
              rw [seg_all (show cs.size = noRegs.size by rw [HRz.out]; rfl)]
              have hxs : Ext w3 (W4.setRow pR cs) := Ext.setRow hx hpR _
              have hAs : Amp (W4.setRow pR cs) w3.heap.size (.slice (some At) n1 c1) l 77 := hA.far (setRow_grown W4 pR cs) h12 hne9
              have hs12 : Blk (W4.setRow pR cs) pR 30 cs := Blk.setRow h12 _
              have hs11 : Blk (W4.setRow pR cs) pL 24 #[.slice (some At) n1 c1, .int .i64 a] := Blk.setRow_other h11 _ (by omega)
              clear hx hA hne9 h12 h11
              generalize W4.setRow pR cs = W5 at *
              have hx := hxs
              have hA := hAs
              have h12 := hs12
              have h11 := hs11
              clear hxs hAs hs12 hs11
              refine hK.out _ _ (HSS.out _ hx) (fun hHeld5 => ?_)
              clear hK K hHeld4
              try simp only [List.getElem_toArray, List.getElem_cons_zero, List.getElem_cons_succ, Act.put, List.setIfInBounds_toArray, List.set_cons_zero, List.set_cons_succ]
              refine wpAnyH_done (by kernel_rfl) ?_ _
              try go_wp2_with fail
              go_meet
              exact ⟨pL, pR, At, n1, c1, rfl, rfl, hpL, hpR, hne, Lib.hid h11, Lib.hid h12, Lib.hid hA, Lib.hid hx⟩
    · go_simp
      change K _ (W0.alloc (.cells noRegs 30))
      have h12 := Blk.new W0 30 noRegs
      have hpR : w3.heap.size ≤ W0.heap.size := hx.hsize
      replace hx := hx.to_alloc (.cells noRegs 30)
      generalize W0.heap.size = pR at *
      generalize W0.alloc (.cells noRegs 30) = W1 at *
      refine hK.out _ _ (HSS.out _ hx) (fun hHeld1 => ?_)
      clear hK K hHeld
      try simp only [List.getElem_toArray, List.getElem_cons_zero, List.getElem_cons_succ, Act.put, List.setIfInBounds_toArray, List.set_cons_zero, List.set_cons_succ]
      refine wpAnyH_ready (rs := [2, 7]) (by kernel_rfl) (by simp) ?_
      refine AllReadyH.cons rfl (fun K hK => ?_) (AllReadyH.cons rfl (fun K hK => ?_) (AllReadyH.nil))
      · refine step_callf rfl 13 #[.slice A n c, .int .i64 77] rfl (by kernel_rfl) (fun v w' => ∃ (At : Addr) (n1 c1 : Nat), v = .slice (some At) n1 c1 ∧ Amp w' W1.heap.size (.slice (some At) n1 c1) l 77 ∧ Ext W1 w') ((HAm.out _ hx).mono fun e w' ⟨v, h1, h2, h3⟩ => by obtain ⟨At, n1, c1, rfl, h4, h5⟩ := h2; exact ⟨_, h1, At, n1, c1, rfl, ⟨At, n1, c1, rfl, h4, h5⟩, h3⟩) ?_
        rintro v W2 ⟨At, n1, c1, rfl, hA, hxc⟩
        replace hA := hA.lower hx.hsize
        replace hx := hx.trans hxc
        replace h12 := h12.ext hxc
        clear hxc
        refine hK.out _ _ (HSS.out _ hx) (fun hHeld2 => ?_)
        clear hK K hHeld1
        try simp only [List.getElem_toArray, List.getElem_cons_zero, List.getElem_cons_succ, Act.put, List.setIfInBounds_toArray, List.set_cons_zero, List.set_cons_succ]
        refine wpAnyH_take (i := 5) (v := (.agg #[.slice (some At) n1 c1, .int .i64 a])) rfl (by kernel_rfl) (by kernel_rfl) (by kernel_rfl) (fun _ _ _ h => h) (Or.inl ⟨by rfl, by (intro w hSw; obtain ⟨s0, s1, s2⟩ := hSw; go_simp)⟩) hHeld2 ?_
        try simp only [List.getElem_toArray, List.getElem_cons_zero, List.getElem_cons_succ, Act.put, List.setIfInBounds_toArray, List.set_cons_zero, List.set_cons_succ]
        refine wpAnyH_ready (rs := [7]) (by kernel_rfl) (by simp) ?_
        refine AllReadyH.cons rfl (fun K hK => ?_) (AllReadyH.nil)
        · go_simp
          change K _ (W2.alloc (.cells #[.slice none 0 0, .int .i64 0] 24))
          replace hA := hA.ext (Ext.alloc W2 (.cells #[.slice none 0 0, .int .i64 0] 24))
          have hne : W2.heap.size ≠ pR := by have := h12.lt; omega
          replace h12 := h12.ext (Ext.alloc W2 (.cells #[.slice none 0 0, .int .i64 0] 24))
          have h11 := Blk.new W2 24 #[.slice none 0 0, .int .i64 0]
          have hpL : w3.heap.size ≤ W2.heap.size := hx.hsize
          replace hx := hx.to_alloc (.cells #[.slice none 0 0, .int .i64 0] 24)
          generalize W2.heap.size = pL at *
          generalize W2.alloc (.cells #[.slice none 0 0, .int .i64 0] 24) = W3 at *
          refine hK.out _ _ (HSS.out _ hx) (fun hHeld3 => ?_)
          clear hK K hHeld2
          try simp only [List.getElem_toArray, List.getElem_cons_zero, List.getElem_cons_succ, Act.put, List.setIfInBounds_toArray, List.set_cons_zero, List.set_cons_succ]
          refine wpAnyH_ready (rs := [9]) (by kernel_rfl) (by simp) ?_
          refine AllReadyH.cons rfl (fun K hK => ?_) (AllReadyH.nil)
          · have hne9 : 24 ≠ 3 := by decide
            refine step_store_at rfl 24 (.tmp 11) (.tmp 48) rfl pL 0 #[.slice (some At) n1 c1, .int .i64 a] rfl rfl 24 #[.slice none 0 0, .int .i64 0] h11 line_info (Nat.le_refl _) (by simp [Value.oneCell']) ?_
            change K _ (W3.setRow pL #[.slice (some At) n1 c1, .int .i64 a])
            have hxs : Ext w3 (W3.setRow pL #[.slice (some At) n1 c1, .int .i64 a]) := Ext.setRow hx hpL _
            have hAs : Amp (W3.setRow pL #[.slice (some At) n1 c1, .int .i64 a]) w3.heap.size (.slice (some At) n1 c1) l 77 := hA.far (setRow_grown W3 pL #[.slice (some At) n1 c1, .int .i64 a]) h11 hne9
            have hs11 : Blk (W3.setRow pL #[.slice (some At) n1 c1, .int .i64 a]) pL 24 #[.slice (some At) n1 c1, .int .i64 a] := Blk.setRow h11 _
            have hs12 : Blk (W3.setRow pL #[.slice (some At) n1 c1, .int .i64 a]) pR 30 noRegs := Blk.setRow_other h12 _ (by omega)
            clear hx hA hne9 h11 h12
            generalize W3.setRow pL #[.slice (some At) n1 c1, .int .i64 a] = W4 at *
            have hx := hxs
            have hA := hAs
            have h11 := hs11
            have h12 := hs12
            clear hxs hAs hs11 hs12
            refine hK.out _ _ (HSS.out _ hx) (fun hHeld4 => ?_)
            clear hK K hHeld3
            try simp only [List.getElem_toArray, List.getElem_cons_zero, List.getElem_cons_succ, Act.put, List.setIfInBounds_toArray, List.set_cons_zero, List.set_cons_succ]
            refine wpAnyH_ready (rs := [10]) (by kernel_rfl) (by simp) ?_
            refine AllReadyH.cons rfl (fun K hK => ?_) (AllReadyH.nil)
            · have hne9 : 30 ≠ 3 := by decide
              refine step_store_at rfl 30 (.tmp 12) (.tmp 49) rfl pR 0 cs rfl rfl 30 noRegs h12 (regs_size HRz.out) (by rw [HRz.out]; exact Nat.le_refl _) HOne.out ?_
              rw [seg_all (show cs.size = noRegs.size by rw [HRz.out]; rfl)]
              have hxs : Ext w3 (W4.setRow pR cs) := Ext.setRow hx hpR _
              have hAs : Amp (W4.setRow pR cs) w3.heap.size (.slice (some At) n1 c1) l 77 := hA.far (setRow_grown W4 pR cs) h12 hne9
              have hs12 : Blk (W4.setRow pR cs) pR 30 cs := Blk.setRow h12 _
              have hs11 : Blk (W4.setRow pR cs) pL 24 #[.slice (some At) n1 c1, .int .i64 a] := Blk.setRow_other h11 _ (by omega)
              clear hx hA hne9 h12 h11
              generalize W4.setRow pR cs = W5 at *
              have hx := hxs
              have hA := hAs
              have h12 := hs12
              have h11 := hs11
              clear hxs hAs hs12 hs11
              refine hK.out _ _ (HSS.out _ hx) (fun hHeld5 => ?_)
              clear hK K hHeld4
              try simp only [List.getElem_toArray, List.getElem_cons_zero, List.getElem_cons_succ, Act.put, List.setIfInBounds_toArray, List.set_cons_zero, List.set_cons_succ]
              refine wpAnyH_done (by kernel_rfl) ?_ _
              try go_wp2_with fail
              go_meet
              exact ⟨pL, pR, At, n1, c1, rfl, rfl, hpL, hpR, hne, Lib.hid h11, Lib.hid h12, Lib.hid hA, Lib.hid hx⟩
      · go_simp
        change K _ (W1.alloc (.cells #[.slice none 0 0, .int .i64 0] 24))
        have hne : W1.heap.size ≠ pR := by have := h12.lt; omega
        replace h12 := h12.ext (Ext.alloc W1 (.cells #[.slice none 0 0, .int .i64 0] 24))
        have h11 := Blk.new W1 24 #[.slice none 0 0, .int .i64 0]
        have hpL : w3.heap.size ≤ W1.heap.size := hx.hsize
        replace hx := hx.to_alloc (.cells #[.slice none 0 0, .int .i64 0] 24)
        generalize W1.heap.size = pL at *
        generalize W1.alloc (.cells #[.slice none 0 0, .int .i64 0] 24) = W2 at *
        refine hK.out _ _ (HSS.out _ hx) (fun hHeld2 => ?_)
        clear hK K hHeld1
        try simp only [List.getElem_toArray, List.getElem_cons_zero, List.getElem_cons_succ, Act.put, List.setIfInBounds_toArray, List.set_cons_zero, List.set_cons_succ]
        refine wpAnyH_ready (rs := [2]) (by kernel_rfl) (by simp) ?_
        refine AllReadyH.cons rfl (fun K hK => ?_) (AllReadyH.nil)
        · refine step_callf rfl 13 #[.slice A n c, .int .i64 77] rfl (by kernel_rfl) (fun v w' => ∃ (At : Addr) (n1 c1 : Nat), v = .slice (some At) n1 c1 ∧ Amp w' W2.heap.size (.slice (some At) n1 c1) l 77 ∧ Ext W2 w') ((HAm.out _ hx).mono fun e w' ⟨v, h1, h2, h3⟩ => by obtain ⟨At, n1, c1, rfl, h4, h5⟩ := h2; exact ⟨_, h1, At, n1, c1, rfl, ⟨At, n1, c1, rfl, h4, h5⟩, h3⟩) ?_
          rintro v W3 ⟨At, n1, c1, rfl, hA, hxc⟩
          replace hA := hA.lower hx.hsize
          replace hx := hx.trans hxc
          replace h11 := h11.ext hxc
          replace h12 := h12.ext hxc
          clear hxc
          refine hK.out _ _ (HSS.out _ hx) (fun hHeld3 => ?_)
          clear hK K hHeld2
          try simp only [List.getElem_toArray, List.getElem_cons_zero, List.getElem_cons_succ, Act.put, List.setIfInBounds_toArray, List.set_cons_zero, List.set_cons_succ]
          refine wpAnyH_take (i := 5) (v := (.agg #[.slice (some At) n1 c1, .int .i64 a])) rfl (by kernel_rfl) (by kernel_rfl) (by kernel_rfl) (fun _ _ _ h => h) (Or.inl ⟨by rfl, by (intro w hSw; obtain ⟨s0, s1, s2⟩ := hSw; go_simp)⟩) hHeld3 ?_
          try simp only [List.getElem_toArray, List.getElem_cons_zero, List.getElem_cons_succ, Act.put, List.setIfInBounds_toArray, List.set_cons_zero, List.set_cons_succ]
          refine wpAnyH_ready (rs := [9]) (by kernel_rfl) (by simp) ?_
          refine AllReadyH.cons rfl (fun K hK => ?_) (AllReadyH.nil)
          · have hne9 : 24 ≠ 3 := by decide
            refine step_store_at rfl 24 (.tmp 11) (.tmp 48) rfl pL 0 #[.slice (some At) n1 c1, .int .i64 a] rfl rfl 24 #[.slice none 0 0, .int .i64 0] h11 line_info (Nat.le_refl _) (by simp [Value.oneCell']) ?_
            change K _ (W3.setRow pL #[.slice (some At) n1 c1, .int .i64 a])
            have hxs : Ext w3 (W3.setRow pL #[.slice (some At) n1 c1, .int .i64 a]) := Ext.setRow hx hpL _
            have hAs : Amp (W3.setRow pL #[.slice (some At) n1 c1, .int .i64 a]) w3.heap.size (.slice (some At) n1 c1) l 77 := hA.far (setRow_grown W3 pL #[.slice (some At) n1 c1, .int .i64 a]) h11 hne9
            have hs11 : Blk (W3.setRow pL #[.slice (some At) n1 c1, .int .i64 a]) pL 24 #[.slice (some At) n1 c1, .int .i64 a] := Blk.setRow h11 _
            have hs12 : Blk (W3.setRow pL #[.slice (some At) n1 c1, .int .i64 a]) pR 30 noRegs := Blk.setRow_other h12 _ (by omega)
            clear hx hA hne9 h11 h12
            generalize W3.setRow pL #[.slice (some At) n1 c1, .int .i64 a] = W4 at *
            have hx := hxs
            have hA := hAs
            have h11 := hs11
            have h12 := hs12
            clear hxs hAs hs11 hs12
            refine hK.out _ _ (HSS.out _ hx) (fun hHeld4 => ?_)
            clear hK K hHeld3
            try simp only [List.getElem_toArray, List.getElem_cons_zero, List.getElem_cons_succ, Act.put, List.setIfInBounds_toArray, List.set_cons_zero, List.set_cons_succ]
            refine wpAnyH_ready (rs := [10]) (by kernel_rfl) (by simp) ?_
            refine AllReadyH.cons rfl (fun K hK => ?_) (AllReadyH.nil)
            · have hne9 : 30 ≠ 3 := by decide
              refine step_store_at rfl 30 (.tmp 12) (.tmp 49) rfl pR 0 cs rfl rfl 30 noRegs h12 (regs_size HRz.out) (by rw [HRz.out]; exact Nat.le_refl _) HOne.out ?_
              rw [seg_all (show cs.size = noRegs.size by rw [HRz.out]; rfl)]
              have hxs : Ext w3 (W4.setRow pR cs) := Ext.setRow hx hpR _
              have hAs : Amp (W4.setRow pR cs) w3.heap.size (.slice (some At) n1 c1) l 77 := hA.far (setRow_grown W4 pR cs) h12 hne9
              have hs12 : Blk (W4.setRow pR cs) pR 30 cs := Blk.setRow h12 _
              have hs11 : Blk (W4.setRow pR cs) pL 24 #[.slice (some At) n1 c1, .int .i64 a] := Blk.setRow_other h11 _ (by omega)
              clear hx hA hne9 h12 h11
              generalize W4.setRow pR cs = W5 at *
              have hx := hxs
              have hA := hAs
              have h12 := hs12
              have h11 := hs11
              clear hxs hAs hs12 hs11
              refine hK.out _ _ (HSS.out _ hx) (fun hHeld5 => ?_)
              clear hK K hHeld4
              try simp only [List.getElem_toArray, List.getElem_cons_zero, List.getElem_cons_succ, Act.put, List.setIfInBounds_toArray, List.set_cons_zero, List.set_cons_succ]
              refine wpAnyH_done (by kernel_rfl) ?_ _
              try go_wp2_with fail
              go_meet
              exact ⟨pL, pR, At, n1, c1, rfl, rfl, hpL, hpR, hne, Lib.hid h11, Lib.hid h12, Lib.hid hA, Lib.hid hx⟩
  case rest =>
    obtain ⟨pL, pR, At, n1, c1, rfl, rfl, hpL, hpR, hne, H11, H12, HA, HX⟩ := hcut
    have hz3 : w.heap.size + 1 + 1 < w3.heap.size := E6.out.lt
    have hn1 : n1 = n := by
      obtain ⟨A', n', c', hv, _, h2⟩ := HA.out
      injection hv with e1 e2 e3
      rw [e2, ← h2, hln.out]
    subst hn1
    clear HSS HAm
    go_wp2_with fail
    go_loopw [50] (fun s50 wx => ∃ (i : Nat) (a' : Array Value), i ≤ 27 ∧ s50 = .int .i64 i ∧ Hid (a'.size = 27 ∧ (∀ j, j < i → ∃ v, a'[j]? = some v ∧ Amp wx w3.heap.size v (rs j) 77) ∧ (∀ j, i ≤ j → a'[j]? = cs[j]?)) ∧ Hid (Blk wx pR 30 a') ∧ Hid (Blk wx pL 24 #[.slice (some At) n1 c1, .int .i64 a]) ∧ Hid (Amp wx w3.heap.size (.slice (some At) n1 c1) l 77) ∧ Hid (Ext w3 wx)) (fun s50 _ => 27 - (intOf s50).toNat)
    case atStart => exact ⟨0, cs, by omega, rfl, Lib.hid ⟨HRz.out, fun j hj => by omega, fun _ _ => rfl⟩, H12, H11, HA, HX⟩
    case round =>
      clear H12 H11 HA HX
      obtain ⟨i, a', hi, rfl, Ha, H12, H11, HA, HX⟩ := hrel
      by_cases hlt : i < 27
      · obtain ⟨v, hv, B, q, d, rfl, hI, hB, _⟩ := HR.out.2 i hlt
        have hc : wr.cell? ⟨pR, i, none⟩ = some (.slice B q d) := by rw [H12.out.cell i, Ha.out.2.2 i (Nat.le_refl _), hv]
        have HC := Lib.hid (ample_ok (x := 77) (hI.ext (HX3.out.trans HX.out)) (by have := HRn.out i hlt; rw [hI.len] at this; exact this))
        clear hv hI
        go_wp2_with fail
        refine HC.out.mono ?_
        rintro e w4 ⟨v2, rfl, hO, he4⟩
        have H12' := Lib.hid (Blk.ext H12.out he4)
        have hgs : w4.grownBy (w4.setCell ⟨pR, i, none⟩ v2) (some pR) := set_grows w4 ⟨pR, i, none⟩ v2
        have htn : 30 ≠ 3 := by decide
        have HA2 := Lib.hid ((HA.out.ext he4).far hgs H12'.out htn)
        have HV2 := Lib.hid ((hO.lower HX.out.hsize).far hgs H12'.out htn)
        have H112 := Lib.hid (set_other (Blk.ext H11.out he4) hne.symm i v2)
        have HX2 := Lib.hid ((HX.out.trans he4).setCell (p := ⟨pR, i, none⟩) hpR v2)
        have HAs : Hid (∀ j, j < i → ∃ v, a'[j]? = some v ∧ Amp (w4.setCell ⟨pR, i, none⟩ v2) w3.heap.size v (rs j) 77) := Lib.hid (fun j hj => by
          obtain ⟨v, h1, h2⟩ := Ha.out.2.1 j hj
          exact ⟨v, h1, (h2.ext he4).far hgs H12'.out htn⟩)
        have Hrest : Hid (a'.size = 27 ∧ (∀ j, i ≤ j → a'[j]? = cs[j]?)) := Lib.hid ⟨Ha.out.1, Ha.out.2.2⟩
        have hfr := H12'.out.frozen i
        have hc2 : w4.cell? ⟨pR, i, none⟩ = some (.slice B q d) := he4.cell hc
        obtain ⟨Ao, no, co, rfl⟩ : ∃ Ao no co, v2 = .slice Ao no co := by obtain ⟨A', n', c', h, _⟩ := hO; exact ⟨_, _, _, h⟩
        clear HC hO he4 hc Ha H12 H11 HA HX hgs htn
        go_wp2_with fail
        go_roundw
        case rel =>
          refine ⟨i + 1, a'.setIfInBounds i (.slice Ao no co), by omega, by go_num, Lib.hid ⟨by simpa using Hrest.out.1, fun j hj => ?_, fun j hj => ?_⟩, Lib.hid (H12'.out.set_ i _), H112, HA2, HX2⟩
          · by_cases hji : j = i
            · subst hji
              exact ⟨_, by rw [Array.getElem?_setIfInBounds_self, if_pos (by rw [Hrest.out.1]; exact hlt)], HV2.out⟩
            · obtain ⟨v, h1, h2⟩ := HAs.out j (by omega)
              exact ⟨v, by rw [Array.getElem?_setIfInBounds_ne (by omega)]; exact h1, h2⟩
          · rw [Array.getElem?_setIfInBounds_ne (by omega)]
            exact Hrest.out.2 j (by omega)
        case measure => simp [intOf]; omega
      · obtain rfl : i = 27 := by omega
        generalize wr = wb at *
        have HAs := Lib.hid Ha.out.2.1
        have Has := Lib.hid Ha.out.1
        have HReg := Lib.hid (ampr_regs Ha.out.1 Ha.out.2.1 HRn.out)
        obtain ⟨A', n', c', hv, hIt, _⟩ := HA.out.ints
        injection hv with e1 e2 e3
        injection e1 with e1
        subst e1; subst e2; subst e3
        have HIt := Lib.hid hIt
        have HD := Lib.hid (HDo.out wb _ _ a' HIt.out HWl.out nofun HReg.out)
        have HX4 := Lib.hid (HX3.out.trans HX.out)
        obtain ⟨x0, x1⟩ := cells2L H11.out
        obtain ⟨y0, y1, y2, y3, y4⟩ := cells5 (E6.out.ext HX.out)
        clear Ha hIt
        go_wp2_with (refine wpList_load_row rfl 30 (.tmp 12) rfl pR rfl 30 a' (0, 0) _ H12.out Try.underlying30 rfl (regs_size Has.out) ?_)
        refine HD.out.mono ?_
        rintro e w5 ⟨hx5, vs, er, rfl, hres⟩
        have HRes := Lib.hid hres
        have HX5 := Lib.hid hx5
        clear hx5 hres HD x0 x1 y0 y1 y2 y3 y4
        go_upto_region 11 with (refine wpList_store_row rfl 33 (.tmp 14) _ rfl w5.heap.size vs rfl rfl 33 resZ (Blk.new w5 _ resZ) (res_size HRes.out.size) (by rw [HRes.out.size]; rfl) HRes.out.one ?_)
        change Code.wp _ _ _ _ ((w5.alloc (.cells resZ 33)).setRow w5.heap.size vs)
        obtain ⟨hx6, hb6⟩ := laid_res w5 vs
        generalize (w5.alloc (.cells resZ 33)).setRow w5.heap.size vs = w6 at *
        have hp14 : wb.heap.size ≤ w5.heap.size := HX5.out.hsize
        generalize w5.heap.size = p14 at *
        have B14 := Lib.hid hb6
        have HX6 := Lib.hid (HX5.out.trans hx6)
        have HRes6 := Lib.hid (HRes.out.ext hx6)
        clear hx6 hb6 HRes HX5
        obtain ⟨x0, x1⟩ := cells2L (H11.out.ext HX6.out)
        have HK := Lib.hid (HKey.out w6 _ _ (HIt.out.ext HX6.out) nofun)
        go_wp2_with fail
        refine HK.out.mono ?_
        rintro e w7 ⟨hx7, K, kq, kd, ker, rfl, hkO⟩
        have HKO := Lib.hid hkO
        have HX7 := Lib.hid (HX6.out.trans hx7)
        have HRes7 := Lib.hid (HRes6.out.ext hx7)
        have B147 := Lib.hid (Blk.ext B14.out hx7)
        have h67 : w6.heap.size ≤ w7.heap.size := hx7.hsize
        have h146 : p14 < w6.heap.size := B14.out.lt
        clear hx7 hkO HK x0 x1 HRes6 B14 HX6
        go_upto_region 12 with (refine wpList_store_row rfl 24 (.tmp 16) _ rfl w7.heap.size #[.slice K kq kd, .int .i64 ka] rfl rfl 24 #[.slice none 0 0, .int .i64 0] (Blk.new w7 _ _) line_info rfl (by simp [Value.oneCell']) ?_)
        change Code.wp _ _ _ _ ((w7.alloc (.cells #[.slice none 0 0, .int .i64 0] 24)).setRow w7.heap.size #[.slice K kq kd, .int .i64 ka])
        obtain ⟨hx8, hb8⟩ := laid_line w7 #[.slice K kq kd, .int .i64 ka]
        generalize (w7.alloc (.cells #[.slice none 0 0, .int .i64 0] 24)).setRow w7.heap.size #[.slice K kq kd, .int .i64 ka] = w8 at *
        have hp16 : wb.heap.size ≤ w7.heap.size := by omega
        generalize w7.heap.size = p16 at *
        have B16 := Lib.hid hb8
        have HX8 := Lib.hid (HX7.out.trans hx8)
        have HRes8 := Lib.hid (HRes7.out.ext hx8)
        have B148 := Lib.hid (Blk.ext B147.out hx8)
        have HK8 : Hid (OwnI w8 wb.heap.size K kq kd km) := Lib.hid (Own.lower (Own.ext HKO.out hx8) (by omega))
        clear hx8 hb8 HRes7 B147 HX7 HKO
        obtain ⟨A', n', c', hv, hO, hl2⟩ := HA.out
        injection hv with e1 e2 e3
        injection e1 with e1
        subst e1; subst e2; subst e3
        have HQ := Lib.hid (stays_ok (hO.ints.ext HX8.out) hl2 (HL.out.ext (HX4.out.trans HX8.out)))
        obtain ⟨x0, x1⟩ := cells2L (H11.out.ext HX8.out)
        obtain ⟨z0, z1⟩ := cells2L (E4.out.ext (HX.out.trans HX8.out))
        clear hO hl2
        go_wp2_with fail
        refine HQ.out.mono ?_
        rintro e w9 ⟨rfl, k9, rfl⟩
        have HX9 := Lib.hid (HX8.out.trans (Ext.drewN w8 k9))
        have HX89 := Lib.hid (Ext.drewN w8 k9)
        clear HQ x0 x1 z0 z1
        generalize w8.drewN k9 = w9 at *
        go_wp2_with fail
        go_loopw [80] (fun s80 wx => ∃ i : Nat, i ≤ 27 ∧ s80 = .int .i64 i ∧ Hid (Ext w9 wx)) (fun s80 _ => 27 - (intOf s80).toNat)
        case atStart => exact ⟨0, by omega, rfl, Lib.hid (Ext.refl _)⟩
        case round =>
          obtain ⟨i, hi, rfl, hxr⟩ := hrel
          generalize wr = wt at *
          by_cases hlt : i < 27
          · obtain ⟨v, hv, hAi⟩ := HAs.out i hlt
            obtain ⟨Ai, ni, ci, rfl, hOi, hli⟩ := hAi
            obtain ⟨u, hu, B, q, d, rfl, hI, _⟩ := HR.out.2 i hlt
            have k1' : wt.cell? ⟨pR, i, none⟩ = some (.slice (some Ai) ni ci) := by rw [((H12.out.ext HX9.out).ext hxr.out).cell i, hv]
            have k2' : wt.cell? ⟨w.heap.size + 1, i, none⟩ = some (.slice B q d) := by rw [(((E5.out.ext HX.out).ext HX9.out).ext hxr.out).cell i, hu]
            have HQ : Hid (∀ q0, Calls Try.prog 15 #[.slice (some Ai) ni ci, .slice B q d, .int .i64 77] (wt.drewN q0) fun e w' => e = .returned (.bool true) ∧ ∃ k, w' = (wt.drewN q0).drewN k) := Lib.hid fun q0 =>
              stays_ok ((hOi.ints.ext (HX9.out.trans hxr.out)).ext (Ext.drewN wt q0)) hli ((hI.ext (HX4.out.trans (HX9.out.trans hxr.out))).ext (Ext.drewN wt q0))
            clear hv hu hOi hli hI
            go_wp2_with fail
            go_quiet ((go_at_call 15; exact quiet_drew (HQ.out _)))
            go_wp2_with fail
            go_roundw
            case rel => exact ⟨i + 1, by omega, by go_num, Lib.hid (hxr.out.to_drewN _)⟩
            case measure => simp [intOf]; omega
          · obtain rfl : i = 27 := by omega
            have HXt := Lib.hid (HX9.out.trans hxr.out)
            have HRest := Lib.hid (HRes8.out.ext (HX89.out.trans hxr.out))
            have HTb : Hid (∀ B q d, vs[0]? = some (.slice B q d) → ∀ g, (Value.slice B q d).ownBlock = some g → g < wt.heap.size) := Lib.hid (fun B q d h g hg => by
              obtain ⟨B', q', d', h4, h5⟩ := HRest.out.text
              rw [h] at h4
              injection h4 with h4
              injection h4 with e1 e2 e3
              subst e1; subst e2; subst e3
              exact (Own.blk h5 g hg).2)
            have B14t := Lib.hid (Blk.ext B148.out (HX89.out.trans hxr.out))
            have B16t := Lib.hid (Blk.ext B16.out (HX89.out.trans hxr.out))
            have HKt := Lib.hid (Own.ext HK8.out (HX89.out.trans hxr.out))
            clear HRes8 B148 B16 HK8 hxr HX89 HX9 HX8
            have HD := Lib.hid (HDo.out wt _ _ a' (HIt.out.ext HXt.out) HWl.out nofun (HReg.out.ext HXt.out))
            obtain ⟨x0, x1⟩ := cells2L (H11.out.ext HXt.out)
            obtain ⟨y0, y1, y2, y3, y4⟩ := cells5 (E6.out.ext (HX.out.trans HXt.out))
            have HBt := Lib.hid (H12.out.ext HXt.out)
            go_wp2_with (refine wpList_load_row rfl 30 (.tmp 12) rfl pR rfl 30 a' (0, 0) _ HBt.out Try.underlying30 rfl (regs_size Has.out) ?_)
            refine HD.out.mono ?_
            rintro e w10 ⟨hx10, vt, er2, rfl, hres⟩
            have HS := Lib.hid hres
            have HX10 := Lib.hid hx10
            clear hx10 hres HD x0 x1 y0 y1 y2 y3 y4 HBt
            go_upto_region 21 with (refine wpList_store_row rfl 33 (.tmp 19) _ rfl w10.heap.size vt rfl rfl 33 resZ (Blk.new w10 _ resZ) (res_size HS.out.size) (by rw [HS.out.size]; rfl) HS.out.one ?_)
            change Code.wp _ _ _ _ ((w10.alloc (.cells resZ 33)).setRow w10.heap.size vt)
            obtain ⟨hx11, hb11⟩ := laid_res w10 vt
            generalize (w10.alloc (.cells resZ 33)).setRow w10.heap.size vt = w11 at *
            have hp19 : wt.heap.size ≤ w10.heap.size := HX10.out.hsize
            generalize w10.heap.size = p19 at *
            have B19 := Lib.hid hb11
            have HX11 := Lib.hid (HX10.out.trans hx11)
            have HS11 := Lib.hid (HS.out.ext hx11)
            clear hx11 hb11 HS HX10
            obtain ⟨x0, x1⟩ := cells2L ((H11.out.ext HXt.out).ext HX11.out)
            have HK := Lib.hid (HKey.out w11 _ _ (HIt.out.ext (HXt.out.trans HX11.out)) nofun)
            go_wp2_with fail
            refine HK.out.mono ?_
            rintro e w12 ⟨hx12, M, mq, md', mer, rfl, hmO⟩
            have HMO := Lib.hid hmO
            have HX12 := Lib.hid (HX11.out.trans hx12)
            have HS12 := Lib.hid (HS11.out.ext hx12)
            have B1912 := Lib.hid (Blk.ext B19.out hx12)
            have h1112 : w11.heap.size ≤ w12.heap.size := hx12.hsize
            have h1911 : p19 < w11.heap.size := B19.out.lt
            clear hx12 hmO HK x0 x1 HS11 B19 HX11
            go_upto_region 22 with (refine wpList_store_row rfl 24 (.tmp 21) _ rfl w12.heap.size #[.slice M mq md', .int .i64 ka] rfl rfl 24 #[.slice none 0 0, .int .i64 0] (Blk.new w12 _ _) line_info rfl (by simp [Value.oneCell']) ?_)
            change Code.wp _ _ _ _ ((w12.alloc (.cells #[.slice none 0 0, .int .i64 0] 24)).setRow w12.heap.size #[.slice M mq md', .int .i64 ka])
            obtain ⟨hx13, hb13⟩ := laid_line w12 #[.slice M mq md', .int .i64 ka]
            generalize (w12.alloc (.cells #[.slice none 0 0, .int .i64 0] 24)).setRow w12.heap.size #[.slice M mq md', .int .i64 ka] = w13 at *
            have hp21 : wt.heap.size ≤ w12.heap.size := by omega
            generalize w12.heap.size = p21 at *
            have hwt : wb.heap.size ≤ wt.heap.size := HXt.out.hsize
            have B21 := Lib.hid hb13
            have HX13 := Lib.hid (HX12.out.trans hx13)
            have HS13 := Lib.hid (HS12.out.ext hx13)
            have B1913 := Lib.hid (Blk.ext B1912.out hx13)
            have HM13 : Hid (OwnI w13 wb.heap.size M mq md' km) := Lib.hid (Own.lower (Own.ext HMO.out hx13) (by omega))
            have HR13 := Lib.hid (HRest.out.ext HX13.out)
            have B1413 := Lib.hid (Blk.ext B14t.out HX13.out)
            have B1613 := Lib.hid (Blk.ext B16t.out HX13.out)
            have HK13 := Lib.hid (Own.ext HKt.out HX13.out)
            have HXr := Lib.hid (HXt.out.trans HX13.out)
            clear hx13 hb13 HS12 B1912 HX12 HMO HRest B14t B16t HKt
            have hlo : w.heap.size ≤ w3.heap.size := by omega
            have HIv : Hid (EoInv w wb.heap.size w3.heap.size pR a' w13 w13) := Lib.hid {
              low := GrowLow.refl _ _
              reg := H12.out.ext HXr.out
              rows := fun j hj => by
                obtain ⟨v, h1, h2⟩ := HAs.out j hj
                exact ⟨v, h1, h2.rowB.ext HXr.out⟩
              ext := HX4.out.trans HXr.out }
            have HSp := Lib.hid (spoil_row (x := 5) (HA.out.rowB.ext HXr.out))
            obtain ⟨x0, x1⟩ := cells2L (H11.out.ext HXr.out)
            go_wp2_with fail
            refine HSp.out.mono ?_
            rintro e w14 ⟨⟨u14, rfl⟩, g14, hb14, hg14, hc14, hr14⟩
            have HIv2 := Lib.hid (HIv.out.step hlo hb14 hg14 hc14 hr14)
            clear HSp x0 x1 hb14 hg14 hc14 hr14 HIv
            go_wp2_with fail
            go_loopw [109] (fun s109 wx => ∃ i : Nat, i ≤ 27 ∧ s109 = .int .i64 i ∧ Hid (EoInv w wb.heap.size w3.heap.size pR a' w13 wx)) (fun s109 _ => 27 - (intOf s109).toNat)
            case atStart => exact ⟨0, by omega, rfl, HIv2⟩
            case round =>
              clear HIv2
              obtain ⟨i, hi, rfl, HIr⟩ := hrel
              generalize wr = wv at *
              by_cases hlt : i < 27
              · obtain ⟨v, hv, hRow⟩ := HIr.out.rows i hlt
                have HSp := Lib.hid (spoil_row (x := 5) hRow)
                obtain ⟨gr, nr, cr, _, rfl, _⟩ := hRow
                have k1' : wv.cell? ⟨pR, i, none⟩ = some (.slice (some ⟨gr, 0, none⟩) nr cr) := by rw [HIr.out.reg.cell i, hv]
                clear hv
                go_wp2_with fail
                refine HSp.out.mono ?_
                rintro e w15 ⟨⟨u15, rfl⟩, g15, hb15, hg15, hc15, hr15⟩
                have HIn := Lib.hid (HIr.out.step hlo hb15 hg15 hc15 hr15)
                clear HSp k1' hb15 hg15 hc15 hr15 HIr
                go_wp2_with fail
                go_roundw
                case rel => exact ⟨i + 1, by omega, by go_num, HIn⟩
                case measure => simp [intOf]; omega
              · obtain rfl : i = 27 := by omega
                have HlowV := Lib.hid HIr.out.low
                have HXv := Lib.hid HIr.out.ext
                have HRv := Lib.hid (HlowV.out.res HR13.out (by omega))
                have HSv := Lib.hid (HlowV.out.res HS13.out (by omega))
                have B14v := Lib.hid (HlowV.out.blk B1413.out (by omega))
                have B19v := Lib.hid (HlowV.out.blk B1913.out (by omega))
                have B16v := Lib.hid (HlowV.out.blk B1613.out (by omega))
                have B21v := Lib.hid (HlowV.out.blk B21.out (by omega))
                have HKv := Lib.hid (OwnI.ints (HlowV.out.ownI HK13.out (Nat.le_refl _)))
                have HMv := Lib.hid (OwnI.ints (HlowV.out.ownI HM13.out (Nat.le_refl _)))
                clear HIr HlowV HR13 HS13 B1413 B1913 B1613 B21 HK13 HM13
                obtain ⟨S0, q0, e0, h00, ho0⟩ := HRv.out.text
                obtain ⟨X0, r0, f0, g00, go0⟩ := HSv.out.text
                obtain ⟨v3, hv3, hed⟩ := HRv.out.edit
                obtain ⟨u3, hu3, hfd⟩ := HSv.out.edit
                obtain ⟨O, ek, ec, rfl, _⟩ := hed.at_
                obtain ⟨U, fk', fc, rfl, _⟩ := hfd.at_
                have HC : Hid (vs[0]? = some (.slice S0 q0 e0) ∧ vs[1]? = some (.int .i64 at_) ∧ vs[32]? = some (.slice O ek ec)) := Lib.hid ⟨h00, HRv.out.oat, hv3⟩
                have HC' : Hid (vt[0]? = some (.slice X0 r0 f0) ∧ vt[1]? = some (.int .i64 at_) ∧ vt[32]? = some (.slice U fk' fc)) := Lib.hid ⟨g00, HSv.out.oat, hu3⟩
                have HEd := Lib.hid hed
                have HFd := Lib.hid hfd
                have HQ1 := Lib.hid (sameLine_ok (a := at_) ho0.ints go0.ints)
                have HO0 := Lib.hid ho0
                clear h00 ho0 g00 go0 hv3 hed hu3 hfd
                have u0 : wv.cell? ⟨p14, 0, none⟩ = some (.slice S0 q0 e0) := (B14v.out.cell 0).trans HC.out.1
                have u1 : wv.cell? ⟨p14, 1, none⟩ = some (.int .i64 at_) := (B14v.out.cell 1).trans HC.out.2.1
                have t0 : wv.cell? ⟨p19, 0, none⟩ = some (.slice X0 r0 f0) := (B19v.out.cell 0).trans HC'.out.1
                have t1 : wv.cell? ⟨p19, 1, none⟩ = some (.int .i64 at_) := (B19v.out.cell 1).trans HC'.out.2.1
                go_wp2_with fail
                refine HQ1.out.mono ?_
                rintro e w16 ⟨rfl, hx16⟩
                have HX16 := Lib.hid hx16
                have B14w := Lib.hid (Blk.ext B14v.out hx16)
                have B19w := Lib.hid (Blk.ext B19v.out hx16)
                have HPC := Lib.hid (part_cells HRv.out.size)
                have HPS := Lib.hid (part_size HRv.out.size)
                have HTC := Lib.hid (part_cells HSv.out.size)
                have HTS := Lib.hid (part_size HSv.out.size)
                have HQ2 := Lib.hid (sameRegs_ok (HRv.out.regs'.regs.ext hx16) (HSv.out.regs'.regs.ext hx16))
                obtain ⟨RG, hRG⟩ : ∃ R, vs.extract 2 29 = R := ⟨_, rfl⟩
                obtain ⟨TG, hTG⟩ : ∃ R, vt.extract 2 29 = R := ⟨_, rfl⟩
                rw [hRG] at HPC HPS HQ2
                rw [hTG] at HTC HTS HQ2
                have HRG := Lib.hid hRG
                have HTG := Lib.hid hTG
                clear HQ1 u0 u1 t0 t1 hx16 hRG hTG
                go_wp2_with (first | (refine wpList_load_atw (by kernel_rfl) 30 (.tmp 123) rfl p14 2 rfl 33 vs RG (0, 0) _ B14w.out HPC.out Try.underlying30 rfl HPS.out ?_) | (refine wpList_load_atw (by kernel_rfl) 30 (.tmp 125) rfl p19 2 rfl 33 vt TG (0, 0) _ B19w.out HTC.out Try.underlying30 rfl HTS.out ?_))
                refine HQ2.out.mono ?_
                rintro e w17 ⟨rfl, hx17⟩
                have HX17 := Lib.hid (HX16.out.trans hx17)
                have B14x := Lib.hid (Blk.ext B14w.out hx17)
                have B19x := Lib.hid (Blk.ext B19w.out hx17)
                have HQ3 := Lib.hid (sameEd (HEd.out.ext HX17.out) (HFd.out.ext HX17.out))
                have u32 : w17.cell? ⟨p14, 32, none⟩ = some (.slice O ek ec) := (B14x.out.cell 32).trans HC.out.2.2
                have t32 : w17.cell? ⟨p19, 32, none⟩ = some (.slice U fk' fc) := (B19x.out.cell 32).trans HC'.out.2.2
                clear HQ2 hx17 B14w B19w HX16
                go_wp2_with fail
                refine HQ3.out.mono ?_
                rintro e w18 ⟨rfl, hx18⟩
                have HX18 := Lib.hid (HX17.out.trans hx18)
                have B14y := Lib.hid (Blk.ext B14x.out hx18)
                have B19y := Lib.hid (Blk.ext B19x.out hx18)
                obtain ⟨z0, z1⟩ := cells2L (B16v.out.ext HX18.out)
                obtain ⟨y0, y1⟩ := cells2L (B21v.out.ext HX18.out)
                have HQ4 := Lib.hid (sameLine_ok (a := ka) (HKv.out.ext HX18.out) (HMv.out.ext HX18.out))
                clear HQ3 hx18 B14x B19x HX17 u32 t32
                go_wp2_with fail
                refine HQ4.out.mono ?_
                rintro e w19 ⟨rfl, hx19⟩
                have HX19 := Lib.hid (HX18.out.trans hx19)
                have B14z := Lib.hid (Blk.ext B14y.out hx19)
                have B19z := Lib.hid (Blk.ext B19y.out hx19)
                have HOz := Lib.hid (Own.ext HO0.out HX19.out)
                have HSp9 := Lib.hid (spoil_ok (x := 9) HOz.out)
                have u0 : w19.cell? ⟨p14, 0, none⟩ = some (.slice S0 q0 e0) := (B14z.out.cell 0).trans HC.out.1
                clear HQ4 hx19 B14y B19y HX18 z0 z1 y0 y1
                go_wp2_with fail
                refine HSp9.out.mono ?_
                rintro e w20 ⟨⟨u20, rfl⟩, hg20⟩
                have hres20 := (HRv.out.ext HX19.out).spoilt HC.out.1 hg20
                have hres21 := (HSv.out.ext HX19.out).grownO hg20 (fun g hg => by have := HTb.out _ _ _ HC.out.1 g hg; omega) (by omega)
                have hne14 := own_ne_blk HOz.out B14z.out (show 33 ≠ 3 by decide)
                have hne19 := own_ne_blk HOz.out B19z.out (show 33 ≠ 3 by decide)
                have B14a := Lib.hid (B14z.out.grown hg20 (fun e => hne14 p14 e.symm rfl))
                have B19a := Lib.hid (B19z.out.grown hg20 (fun e => hne19 p19 e.symm rfl))
                have HXz := HXv.out.trans HX19.out
                have HXa : Hid (Ext w w20) := Lib.hid (Below.grown HXz hg20 HXz.hsize (fun k hk => by have h1 := (Own.blk HOz.out k hk).1; have h2 := HX4.out.hsize; omega))
                obtain ⟨hrO, v20, hv20, hed20⟩ := hres20
                rw [HC.out.2.2] at hv20
                injection hv20 with hv20
                subst hv20
                rw [HRG.out] at hrO
                have hrT := hres21.regs'
                rw [HTG.out] at hrT
                obtain ⟨u21, hu21, hfd21⟩ := hres21.edit
                rw [HC'.out.2.2] at hu21
                injection hu21 with hu21
                subst hu21
                have HE20 := Lib.hid hed20
                have HF20 := Lib.hid hfd21
                have HQ5 := Lib.hid (sameRegs_ok hrO.regs hrT.regs)
                clear HSp9 u0 hg20 hres21 hne14 hne19 HXz hrO hed20 hrT hfd21 B14z B19z HOz HX19
                go_wp2_with (first | (refine wpList_load_atw (by kernel_rfl) 30 (.tmp 147) rfl p14 2 rfl 33 vs RG (0, 0) _ B14a.out HPC.out Try.underlying30 rfl HPS.out ?_) | (refine wpList_load_atw (by kernel_rfl) 30 (.tmp 149) rfl p19 2 rfl 33 vt TG (0, 0) _ B19a.out HTC.out Try.underlying30 rfl HTS.out ?_))
                refine HQ5.out.mono ?_
                rintro e w21 ⟨rfl, hx21⟩
                have HX21 := Lib.hid (HXa.out.trans hx21)
                have HQ6 := Lib.hid (sameEd (HE20.out.ext hx21) (HF20.out.ext hx21))
                have u32 : w21.cell? ⟨p14, 32, none⟩ = some (.slice O ek ec) := ((B14a.out.ext hx21).cell 32).trans HC.out.2.2
                have t32 : w21.cell? ⟨p19, 32, none⟩ = some (.slice U fk' fc) := ((B19a.out.ext hx21).cell 32).trans HC'.out.2.2
                clear HQ5 hx21
                go_wp2_with fail
                refine HQ6.out.mono ?_
                rintro e w22 ⟨rfl, hx22⟩
                have HX22 := Lib.hid (HX21.out.trans hx22)
                clear HQ6 hx22 u32 t32
                go_wp2_with fail
                go_ret
                exact ⟨rfl, HX22.out⟩
end Go.Proofs.Ytmhgndjmcignjaa
