/-
  The walk of the statement that what comes of a command is a line with its place in it.
-/
import Derived.Test.YtmhgndjmcignjaaZBndM
import Derived.Test.YtmhgndjmcignjaaZDoL
import Derived.Test.YtmhgndjmcignjaaZJ1
import Derived.Test.YtmhgndjmcignjaaZDoY

namespace Go.Proofs.Ytmhgndjmcignjaa
open Go.RowKit
set_option linter.unusedVariables false
set_option linter.unusedSimpArgs false

theorem bnd_start (w : World) (A : Option Addr) (n c : Nat) (a fk fa k1 k2 k3 k4 k5 : Int) (rs : Array Value) : ∃ w0, w0 = ((((w.alloc (.cells #[.slice A n c, .int .i64 a] 24)).alloc (.cells rs 30)).alloc (.cells #[.int .i64 fk, .int .i64 fa] 26)).alloc (.cells #[.int .i64 k1, .int .i64 k2, .int .i64 k3, .int .i64 k4, .int .i64 k5] 28)) ∧ Ext w w0 ∧
    Blk w0 (w.heap.size) 24 #[.slice A n c, .int .i64 a] ∧ Blk w0 (w.heap.size + 1) 30 rs ∧ Blk w0 (w.heap.size + 1 + 1) 26 #[.int .i64 fk, .int .i64 fa] ∧ Blk w0 (w.heap.size + 1 + 1 + 1) 28 #[.int .i64 k1, .int .i64 k2, .int .i64 k3, .int .i64 k4, .int .i64 k5] := by
  have h1 := Blk.new w 24 #[.slice A n c, .int .i64 a]
  have x1 := Ext.alloc w (.cells #[.slice A n c, .int .i64 a] 24)
  have z1 : (w.alloc (.cells #[.slice A n c, .int .i64 a] 24)).heap.size = w.heap.size + 1 := by simp
  generalize w.alloc (.cells #[.slice A n c, .int .i64 a] 24) = W1 at *
  have h2 := Blk.new W1 30 rs
  have x2 := Ext.alloc W1 (.cells rs 30)
  rw [z1] at h2
  have z2 : (W1.alloc (.cells rs 30)).heap.size = w.heap.size + 1 + 1 := by simp [z1]
  generalize W1.alloc (.cells rs 30) = W2 at *
  have h3 := Blk.new W2 26 #[.int .i64 fk, .int .i64 fa]
  have x3 := Ext.alloc W2 (.cells #[.int .i64 fk, .int .i64 fa] 26)
  rw [z2] at h3
  have z3 : (W2.alloc (.cells #[.int .i64 fk, .int .i64 fa] 26)).heap.size = w.heap.size + 1 + 1 + 1 := by simp [z2]
  generalize W2.alloc (.cells #[.int .i64 fk, .int .i64 fa] 26) = W3 at *
  have h4 := Blk.new W3 28 #[.int .i64 k1, .int .i64 k2, .int .i64 k3, .int .i64 k4, .int .i64 k5]
  have x4 := Ext.alloc W3 (.cells #[.int .i64 k1, .int .i64 k2, .int .i64 k3, .int .i64 k4, .int .i64 k5] 28)
  rw [z3] at h4
  exact ⟨_, rfl, ((x1.trans x2).trans x3).trans x4, Blk.ext h1 ((x2.trans x3).trans x4), Blk.ext h2 (x3.trans x4), Blk.ext h3 x4, h4⟩
/-! The literal: the character is taken. -/
theorem abX_eff : effF 0 120 = (100, 108) := by decide
theorem abX_found : foundF' 0 0 108 0 = some (108, 0, 0, 0) := by decide
theorem abX_go {o : Option (Nat × Bool)} (h : goR (chars ⟨#[97, 98]⟩) 0 108 0 (max 1 (0 : Int)).toNat true o) : o = some (1, false) := by
  have h1 : isFind 108 = false := by decide +kernel
  unfold goR at h
  rw [h1] at h
  unfold plainR plainF at h
  have h2 : (chars ⟨#[97, 98]⟩).length = 2 := by decide +kernel
  simp [h2] at h
  rw [h]
  rfl
theorem abX_span {f t : Nat} (h : RangeIs (chars ⟨#[97, 98]⟩) 2 0 108 0 0 f t) : f = 0 ∧ t = 1 := by
  obtain ⟨_, x, i, h1, _, _, rfl, rfl⟩ := h
  have := abX_go h1
  injection this with this
  injection this with h2 h3
  subst h2; subst h3
  simp
theorem abX_ok {Q : Prop} : ValidC 2 0 0 0 0 ∧ OneOk (chars ⟨#[97, 98]⟩) 2 (0 : Int).toNat (fun _ => []) 0 0 (effF 0 120).1 (effF 0 120).2 0 0 0 Q := by
  rw [abX_eff]
  refine ⟨⟨⟨by omega, by omega, by omega⟩, ⟨by omega, by omega⟩, .inl rfl, .inl rfl⟩, fun _ => ⟨108, 0, 0, 0, abX_found, ?_, fun h => ?_, fun _ f t h => ?_⟩, fun h => ?_, fun h => ?_⟩
  · exact ⟨by omega, by omega, by omega, by omega, by omega, by decide +kernel⟩
  · have := abX_go (o := none) (by simpa using h)
    cases this
  · obtain ⟨rfl, rfl⟩ := abX_span h
    refine ⟨fun h => by omega, fun _ => ⟨0, false, rfl, ?_⟩⟩
    unfold putBig
    simp
    rw [show (chars ⟨#[97, 98]⟩).length = 2 by decide +kernel]
    omega
  · exact absurd h (by decide)
  · exact absurd h (by decide)
theorem abX_res {m : List Int} {at_ md zk za : Int} {rl' : Nat → List Int} {ed : List Spl} (h : DoRelV (chars ⟨#[97, 98]⟩) 2 (0 : Int).toNat (fun _ => []) 0 0 (effF 0 120).1 (effF 0 120).2 0 0 0 m at_ md zk za rl' ed) : m = chars ⟨#[98]⟩ ∧ rl' 0 = chars ⟨#[97]⟩ := by
  rw [abX_eff] at h
  rcases h with ⟨_, mk, ma, hf, ⟨h, _⟩ | ⟨_, f, t, h1, h2⟩⟩ | ⟨h, _⟩ | ⟨h, _⟩
  · exact absurd h (by decide)
  · rw [abX_found] at hf
    injection hf with hf
    simp at hf
    obtain ⟨rfl, rfl, _, _⟩ := hf
    obtain ⟨rfl, rfl⟩ := abX_span h1
    obtain ⟨_, hk, ⟨h, _⟩ | ⟨_, hm, _, _⟩⟩ := h2
    · exact absurd h (by decide)
    · refine ⟨by rw [hm]; decide +kernel, ?_⟩
      rw [keep_zero hk (by omega)]
      decide +kernel
  · exact absurd h (by decide)
  · exact absurd h (by decide)

set_option maxRecDepth 20000 in
set_option maxHeartbeats 8000000 in
theorem editBounds_walk {w : World} {A : Option Addr} {n c : Nat} {a fk fa k1 k2 k3 k4 k5 : Int} {l : List Int} {rs : Array Value} {rl : Nat → List Int} (hl : Ints w A n c l) (wl : ∀ x ∈ l, (Lit.int .i64 x).wf = true) (hA : A = none → c = 0) (hr : Regs w rs rl) :
    Calls Try.prog 6 #[.agg #[.slice A n c, .int .i64 a], .agg rs, .agg #[.int .i64 fk, .int .i64 fa], .agg #[.int .i64 k1, .int .i64 k2, .int .i64 k3, .int .i64 k4, .int .i64 k5]] w fun e w' => e = .returned (.bool true) ∧ Ext w w' := by
  have HOf := fun w => Lib.hid (of_ok ⟨#[97, 98]⟩ w (by decide))
  have HOb := fun w => Lib.hid (of_ok ⟨#[98]⟩ w (by decide))
  have HOa := fun w => Lib.hid (of_ok ⟨#[97]⟩ w (by decide))
  have HL := Lib.hid hl
  have HWl := Lib.hid wl
  have HA := Lib.hid hA
  have HR := Lib.hid hr
  have HRz := Lib.hid hr.1
  have hln := Lib.hid hl.len
  clear hl hA wl hr
  obtain ⟨w0, hw0, hx0, hb3, hb4, hb5, hb6⟩ := bnd_start w A n c a fk fa k1 k2 k3 k4 k5 rs
  have HW := Lib.hid hw0
  have HX0 := Lib.hid hx0
  have B4 := Lib.hid hb3
  have B5 := Lib.hid hb4
  have B6 := Lib.hid hb5
  have B7 := Lib.hid hb6
  clear hw0 hx0 hb3 hb4 hb5 hb6
  go_enter Try.func6, Try.ntmps6
  go_upto_region 1 with fail
  change Code.wp _ _ _ _ ((((w.alloc (.cells #[.slice A n c, .int .i64 a] 24)).alloc (.cells rs 30)).alloc (.cells #[.int .i64 fk, .int .i64 fa] 26)).alloc (.cells #[.int .i64 k1, .int .i64 k2, .int .i64 k3, .int .i64 k4, .int .i64 k5] 28))
  rw [← HW.out]
  clear HW
  go_wp2_with fail
  refine ((HOf _).out).mono ?_
  rintro e w1 ⟨T1, d1, rfl, ho1, he1⟩
  have hz2 : (⟨#[97, 98]⟩ : ByteArray).size = 2 := rfl
  rw [hz2] at ho1
  have HD1 := Lib.hid (do_full (a := 0) (fk := 0) (fa := 0) (k1 := 0) (k2 := 0) (k3 := 0) (k4 := 120) (k5 := 0) ho1.ints (by decide +kernel) (Own.nocap ho1) (noRegs_regs w1))
  rw [noRegs_lit] at HD1
  rw [hz2]
  have HX1 := Lib.hid (HX0.out.trans he1)
  have C4 := Lib.hid (B4.out.ext he1)
  have C5 := Lib.hid (B5.out.ext he1)
  have C6 := Lib.hid (B6.out.ext he1)
  have C7 := Lib.hid (B7.out.ext he1)
  clear ho1 he1 HX0 B4 B5 B6 B7 hz2
  go_wp2_with fail
  refine HD1.out.mono ?_
  rintro e w2 ⟨hx2, ⟨hno, _⟩ | ⟨vs1, m1, at1, md1, zk1, za1, rl1, ed1, rfl, _, hres1, hrel1⟩⟩
  · exact absurd abX_ok hno
  obtain ⟨hm1, hto1⟩ := abX_res hrel1
  obtain ⟨S1, q1, e1, hv0, ho0⟩ := hres1.text
  obtain ⟨v2, hv2, hr2⟩ := hres1.regs 0 (by omega)
  rw [hto1] at hr2
  rw [hm1] at ho0
  obtain ⟨X1, r1, g1, rfl, ho2, _, _⟩ := hr2
  have HS1 := Lib.hid hres1.size
  have HOn1 := Lib.hid hres1.one
  have HV : Hid (vs1[0]? = some (.slice S1 q1 e1) ∧ vs1[2]? = some (.slice X1 r1 g1)) := Lib.hid ⟨hv0, hv2⟩
  have HO1 := Lib.hid ho0.ints
  have HO2 := Lib.hid ho2.ints
  have HX2 := Lib.hid (HX1.out.trans hx2)
  have D4 := Lib.hid (C4.out.ext hx2)
  have D5 := Lib.hid (C5.out.ext hx2)
  have D6 := Lib.hid (C6.out.ext hx2)
  have D7 := Lib.hid (C7.out.ext hx2)
  clear hx2 HD1 hres1 hrel1 hto1 hm1 hv0 hv2 ho0 ho2 HX1 C4 C5 C6 C7
  go_upto_region 2 with (refine wpList_store_row rfl 33 (.tmp 9) (.tmp 23) rfl w2.heap.size vs1 rfl rfl 33 resZ (Blk.new w2 _ resZ) (res_size HS1.out) (by rw [HS1.out]; rfl) HOn1.out ?_)
  change Code.wp _ _ _ _ ((w2.alloc (.cells resZ 33)).setRow w2.heap.size vs1)
  obtain ⟨hx3, hb3⟩ := laid_res w2 vs1
  generalize (w2.alloc (.cells resZ 33)).setRow w2.heap.size vs1 = w3 at *
  have HX3 := Lib.hid (HX2.out.trans hx3)
  have E4 := Lib.hid (D4.out.ext hx3)
  have E5 := Lib.hid (D5.out.ext hx3)
  have E6 := Lib.hid (D6.out.ext hx3)
  have E7 := Lib.hid (D7.out.ext hx3)
  have c6 : w3.cell? ⟨w2.heap.size, 0, none⟩ = some (.slice S1 q1 e1) := (hb3.cell 0).trans HV.out.1
  have c7 : w3.cell? ⟨w2.heap.size, 2, none⟩ = some (.slice X1 r1 g1) := (hb3.cell 2).trans HV.out.2
  have HI1 := Lib.hid (HO1.out.ext hx3)
  have HJ1 := Lib.hid (HO2.out.ext hx3)
  clear hx3 hb3 HX2 D4 D5 D6 D7 HO1 HO2 HOn1 HS1 HV
  go_cut [42] (fun v wx => v = .bool false ∧ Hid (Ext w3 wx))
  case first =>
    refine wp_region_held_drew (S := fun w' => w'.cell? ⟨w2.heap.size, 0, none⟩ = some (.slice S1 q1 e1) ∧ w'.cell? ⟨w2.heap.size, 2, none⟩ = some (.slice X1 r1 g1)) (by kernel_rfl) ⟨c6, c7⟩ (fun hHeld => ?_)
    refine wpAnyH_take (i := 0) (v := (.int .i64 0)) rfl (by kernel_rfl) (by kernel_rfl) (by kernel_rfl) (fun _ _ _ h => h) (Or.inl ⟨by rfl, by (intro w hSw; obtain ⟨s0, s1⟩ := hSw; go_simp)⟩) hHeld ?_
    try simp only [List.getElem_toArray, List.getElem_cons_zero, List.getElem_cons_succ, Act.put, List.setIfInBounds_toArray, List.set_cons_zero, List.set_cons_succ]
    refine wpAnyH_take (i := 1) (v := (.bool false)) rfl (by kernel_rfl) (by kernel_rfl) (by kernel_rfl) (fun _ _ _ h => h) (Or.inl ⟨by rfl, by (intro w hSw; obtain ⟨s0, s1⟩ := hSw; go_simp)⟩) hHeld ?_
    try simp only [List.getElem_toArray, List.getElem_cons_zero, List.getElem_cons_succ, Act.put, List.setIfInBounds_toArray, List.set_cons_zero, List.set_cons_succ]
    refine wpAnyH_take (i := 2) (v := (.bool false)) rfl (by kernel_rfl) (by kernel_rfl) (by kernel_rfl) (fun _ _ _ h => h) (Or.inl ⟨by rfl, by (intro w hSw; obtain ⟨s0, s1⟩ := hSw; go_simp)⟩) hHeld ?_
    try simp only [List.getElem_toArray, List.getElem_cons_zero, List.getElem_cons_succ, Act.put, List.setIfInBounds_toArray, List.set_cons_zero, List.set_cons_succ]
    refine wpAnyH_take (i := 3) (v := (.pointer (some ⟨w2.heap.size, 0, none⟩))) rfl (by kernel_rfl) (by kernel_rfl) (by kernel_rfl) (fun _ _ _ h => h) (Or.inl ⟨by kernel_rfl, by (intro w hSw; obtain ⟨s0, s1⟩ := hSw; go_simp)⟩) hHeld ?_
    try simp only [List.getElem_toArray, List.getElem_cons_zero, List.getElem_cons_succ, Act.put, List.setIfInBounds_toArray, List.set_cons_zero, List.set_cons_succ]
    refine wpAnyH_take (i := 4) (v := (.pointer (some ⟨w2.heap.size, 0, none⟩))) rfl (by kernel_rfl) (by kernel_rfl) (by kernel_rfl) (fun _ _ _ h => h) (Or.inl ⟨by kernel_rfl, by (intro w hSw; obtain ⟨s0, s1⟩ := hSw; go_simp)⟩) hHeld ?_
    try simp only [List.getElem_toArray, List.getElem_cons_zero, List.getElem_cons_succ, Act.put, List.setIfInBounds_toArray, List.set_cons_zero, List.set_cons_succ]
    refine wpAnyH_take (i := 5) (v := (.slice S1 q1 e1)) rfl (by kernel_rfl) (by kernel_rfl) (by kernel_rfl) (fun _ _ _ h => h) (Or.inl ⟨by kernel_rfl, by (intro w hSw; obtain ⟨s0, s1⟩ := hSw; go_simp)⟩) hHeld ?_
    try simp only [List.getElem_toArray, List.getElem_cons_zero, List.getElem_cons_succ, Act.put, List.setIfInBounds_toArray, List.set_cons_zero, List.set_cons_succ]
    refine wpAnyH_ready (rs := [6]) (by kernel_rfl) (by simp) ?_
    refine AllReadyH.cons rfl (fun K hK => ?_) AllReadyH.nil
    refine step_callw (by kernel_rfl) 9 #[.string ⟨#[98]⟩] rfl (by kernel_rfl) (fun v w' => ∃ B d, v = .slice B 1 d ∧ Ints w' B 1 d (chars ⟨#[98]⟩) ∧ Ext w3.drew w') (((HOb _).out).mono fun e w' ⟨B, d, h1, h2, h3⟩ => ⟨_, h1, B, d, rfl, h2.ints, h3⟩) ?_
    rintro v w4 ⟨B9, d9, rfl, hi9, hx4⟩
    refine hK.out _ _ ⟨hx4.cell c6, hx4.cell c7⟩ (fun hHeld2 => ?_)
    clear hK K hHeld
    try simp only [List.getElem_toArray, List.getElem_cons_zero, List.getElem_cons_succ, Act.put, List.setIfInBounds_toArray, List.set_cons_zero, List.set_cons_succ]
    refine wpAnyH_ready (rs := [7]) (by kernel_rfl) (by simp) ?_
    refine AllReadyH.cons rfl (fun K hK => ?_) AllReadyH.nil
    refine step_callw (by kernel_rfl) 10 #[.slice S1 q1 e1, .slice B9 1 d9] rfl (by kernel_rfl) (fun v w' => v = .bool true ∧ Ext w4 w') ((equal_ext (HI1.out.ext ((Ext.drew w3).trans hx4)) hi9).mono fun e w' ⟨h1, h2⟩ => ⟨_, h1, by rw [eqB_true.2 rfl], h2⟩) ?_
    rintro v w5 ⟨rfl, hx5⟩
    refine hK.out _ _ ⟨(hx4.trans hx5).cell c6, (hx4.trans hx5).cell c7⟩ (fun hHeld3 => ?_)
    clear hK K hHeld2
    try simp only [List.getElem_toArray, List.getElem_cons_zero, List.getElem_cons_succ, Act.put, List.setIfInBounds_toArray, List.set_cons_zero, List.set_cons_succ]
    refine wpAnyH_take (i := 8) (v := (.bool false)) rfl (by kernel_rfl) (by kernel_rfl) (by kernel_rfl) (fun _ _ _ h => h) (Or.inl ⟨by kernel_rfl, by (intro w hSw; obtain ⟨s0, s1⟩ := hSw; go_simp)⟩) hHeld3 ?_
    try simp only [List.getElem_toArray, List.getElem_cons_zero, List.getElem_cons_succ, Act.put, List.setIfInBounds_toArray, List.set_cons_zero, List.set_cons_succ]
    refine wpAnyH_take (i := 9) (v := (.bool false)) rfl (by kernel_rfl) (by kernel_rfl) (by kernel_rfl) (fun _ _ _ h => h) (Or.inl ⟨by rfl, by (intro w hSw; obtain ⟨s0, s1⟩ := hSw; go_simp)⟩) hHeld3 ?_
    try simp only [List.getElem_toArray, List.getElem_cons_zero, List.getElem_cons_succ, Act.put, List.setIfInBounds_toArray, List.set_cons_zero, List.set_cons_succ]
    refine wpAnyH_take (i := 10) (v := (.bool false)) rfl (by kernel_rfl) (by kernel_rfl) (by kernel_rfl) (fun _ _ _ h => h) (Or.inl ⟨by rfl, by (intro w hSw; obtain ⟨s0, s1⟩ := hSw; go_simp)⟩) hHeld3 ?_
    try simp only [List.getElem_toArray, List.getElem_cons_zero, List.getElem_cons_succ, Act.put, List.setIfInBounds_toArray, List.set_cons_zero, List.set_cons_succ]
    refine wpAnyH_take (i := 11) (v := (.pointer (some ⟨w2.heap.size, 2, none⟩))) rfl (by kernel_rfl) (by kernel_rfl) (by kernel_rfl) (fun _ _ _ h => h) (Or.inl ⟨by kernel_rfl, by (intro w hSw; obtain ⟨s0, s1⟩ := hSw; go_simp)⟩) hHeld3 ?_
    try simp only [List.getElem_toArray, List.getElem_cons_zero, List.getElem_cons_succ, Act.put, List.setIfInBounds_toArray, List.set_cons_zero, List.set_cons_succ]
    refine wpAnyH_take (i := 12) (v := (.pointer (some ⟨w2.heap.size, 2, none⟩))) rfl (by kernel_rfl) (by kernel_rfl) (by kernel_rfl) (fun _ _ _ h => h) (Or.inl ⟨by kernel_rfl, by (intro w hSw; obtain ⟨s0, s1⟩ := hSw; go_simp)⟩) hHeld3 ?_
    try simp only [List.getElem_toArray, List.getElem_cons_zero, List.getElem_cons_succ, Act.put, List.setIfInBounds_toArray, List.set_cons_zero, List.set_cons_succ]
    refine wpAnyH_take (i := 13) (v := (.slice X1 r1 g1)) rfl (by kernel_rfl) (by kernel_rfl) (by kernel_rfl) (fun _ _ _ h => h) (Or.inl ⟨by kernel_rfl, by (intro w hSw; obtain ⟨s0, s1⟩ := hSw; go_simp)⟩) hHeld3 ?_
    try simp only [List.getElem_toArray, List.getElem_cons_zero, List.getElem_cons_succ, Act.put, List.setIfInBounds_toArray, List.set_cons_zero, List.set_cons_succ]
    refine wpAnyH_ready (rs := [14]) (by kernel_rfl) (by simp) ?_
    refine AllReadyH.cons rfl (fun K hK => ?_) AllReadyH.nil
    refine step_callw (by kernel_rfl) 9 #[.string ⟨#[97]⟩] rfl (by kernel_rfl) (fun v w' => ∃ B d, v = .slice B 1 d ∧ Ints w' B 1 d (chars ⟨#[97]⟩) ∧ Ext w5 w') (((HOa _).out).mono fun e w' ⟨B, d, h1, h2, h3⟩ => ⟨_, h1, B, d, rfl, h2.ints, h3⟩) ?_
    rintro v w6 ⟨B8, d8, rfl, hi8, hx6⟩
    refine hK.out _ _ ⟨((hx4.trans hx5).trans hx6).cell c6, ((hx4.trans hx5).trans hx6).cell c7⟩ (fun hHeld4 => ?_)
    clear hK K hHeld3
    try simp only [List.getElem_toArray, List.getElem_cons_zero, List.getElem_cons_succ, Act.put, List.setIfInBounds_toArray, List.set_cons_zero, List.set_cons_succ]
    refine wpAnyH_ready (rs := [15]) (by kernel_rfl) (by simp) ?_
    refine AllReadyH.cons rfl (fun K hK => ?_) AllReadyH.nil
    refine step_callw (by kernel_rfl) 10 #[.slice X1 r1 g1, .slice B8 1 d8] rfl (by kernel_rfl) (fun v w' => v = .bool true ∧ Ext w6 w') ((equal_ext (HJ1.out.ext ((((Ext.drew w3).trans hx4).trans hx5).trans hx6)) hi8).mono fun e w' ⟨h1, h2⟩ => ⟨_, h1, by rw [eqB_true.2 rfl], h2⟩) ?_
    rintro v w7 ⟨rfl, hx7⟩
    refine hK.out _ _ ⟨(((hx4.trans hx5).trans hx6).trans hx7).cell c6, (((hx4.trans hx5).trans hx6).trans hx7).cell c7⟩ (fun hHeld5 => ?_)
    clear hK K hHeld4
    try simp only [List.getElem_toArray, List.getElem_cons_zero, List.getElem_cons_succ, Act.put, List.setIfInBounds_toArray, List.set_cons_zero, List.set_cons_succ]
    refine wpAnyH_take (i := 16) (v := (.bool false)) rfl (by kernel_rfl) (by kernel_rfl) (by kernel_rfl) (fun _ _ _ h => h) (Or.inl ⟨by kernel_rfl, by (intro w hSw; obtain ⟨s0, s1⟩ := hSw; go_simp)⟩) hHeld5 ?_
    try simp only [List.getElem_toArray, List.getElem_cons_zero, List.getElem_cons_succ, Act.put, List.setIfInBounds_toArray, List.set_cons_zero, List.set_cons_succ]
    refine wpAnyH_take (i := 17) (v := (.bool false)) rfl (by kernel_rfl) (by kernel_rfl) (by kernel_rfl) (fun _ _ _ h => h) (Or.inl ⟨by rfl, by (intro w hSw; obtain ⟨s0, s1⟩ := hSw; go_simp)⟩) hHeld5 ?_
    try simp only [List.getElem_toArray, List.getElem_cons_zero, List.getElem_cons_succ, Act.put, List.setIfInBounds_toArray, List.set_cons_zero, List.set_cons_succ]
    refine wpAnyH_done (by kernel_rfl) ?_ _
    have HXX := Lib.hid (((((Ext.drew w3).trans hx4).trans hx5).trans hx6).trans hx7)
    clear hi9 hi8 hx4 hx5 hx6 hx7
    go_wp2_with fail
    go_meet
    exact ⟨rfl, HXX⟩
  case rest =>
    obtain ⟨rfl, HXc⟩ := hcut
    have F4 := Lib.hid (Blk.ext E4.out HXc.out)
    have F5 := Lib.hid (Blk.ext E5.out HXc.out)
    have F6 := Lib.hid (Blk.ext E6.out HXc.out)
    have F7 := Lib.hid (Blk.ext E7.out HXc.out)
    have HXW := Lib.hid (HX3.out.trans HXc.out)
    clear c6 c7 HI1 HJ1 E4 E5 E6 E7 HX3 HXc HOf HOb HOa
    obtain ⟨x0, x1⟩ := cells2L F4.out
    obtain ⟨z0, z1⟩ := cells2L F6.out
    obtain ⟨y0, y1, y2, y3, y4⟩ := cells5 F7.out
    have HLc := Lib.hid (HL.out.ext HXW.out)
    have HD := Lib.hid (do_full (a := a) (fk := fk) (fa := fa) (k1 := k1) (k2 := k2) (k3 := k3) (k4 := k4) (k5 := k5) HLc.out HWl.out HA.out (HR.out.ext HXW.out))
    go_wp2_with (refine wpList_load_row rfl 30 (.tmp 5) rfl (w.heap.size + 1) rfl 30 rs (0, 0) _ F5.out Try.underlying30 rfl (regs_size HRz.out) ?_)
    refine HD.out.mono ?_
    rintro e w6 ⟨hx6, ⟨_, er, her, rfl⟩ | ⟨vs, m, at_, md, zk, za, rl', ed, rfl, hv, hres, hrel⟩⟩
    · have HX6 := Lib.hid (HXW.out.trans hx6)
      have herb : (er != 0) = true := by simp [her]
      clear hx6 HD x0 x1 y0 y1 y2 y3 y4 z0 z1 HLc
      go_upto_region 5 with (refine wpList_store_row rfl 33 (.tmp 11) _ rfl w6.heap.size resZ rfl rfl 33 resZ (Blk.new w6 _ resZ) (res_size rfl) rfl resZ_one ?_)
      change Code.wp _ _ _ _ ((w6.alloc (.cells resZ 33)).setRow w6.heap.size resZ)
      obtain ⟨hx7, hb7⟩ := laid_res w6 resZ
      generalize (w6.alloc (.cells resZ 33)).setRow w6.heap.size resZ = w7 at *
      have HX7 := Lib.hid (HX6.out.trans hx7)
      have u0 : w7.cell? ⟨w6.heap.size, 0, none⟩ = some (.slice none 0 0) := hb7.cell 0
      have u31 : w7.cell? ⟨w6.heap.size, 31, none⟩ = some (.int .i64 0) := hb7.cell 31
      have u32 : w7.cell? ⟨w6.heap.size, 32, none⟩ = some (.slice none 0 0) := hb7.cell 32
      clear hx7 hb7 HX6
      go_wp2_with fail
      go_ret
      exact ⟨rfl, HX7.out⟩
    have hbnd := bnd_do hrel HLc.out.len hv.1.1 (place_toNat hv.1.2.1 hv.1.2.2)
    obtain ⟨S0, q0, e0, h00, ho0⟩ := hres.text
    obtain ⟨v3, hv3, hed⟩ := hres.edit
    obtain ⟨O, ek, ec, rfl, hea⟩ := hed.at_
    have hv1 := hres.oat
    have hv31 := hres.c31
    have HX6 := Lib.hid (HXW.out.trans hx6)
    have J4 := Lib.hid (F4.out.ext hx6)
    have HS := Lib.hid hres.size
    have HOn := Lib.hid hres.one
    have HC : Hid (vs[0]? = some (.slice S0 q0 e0) ∧ vs[1]? = some (.int .i64 at_) ∧ vs[31]? = some (.int .i64 md) ∧ vs[32]? = some (.slice O ek ec)) := Lib.hid ⟨h00, hv1, hv31, hv3⟩
    have HO0 := Lib.hid ho0.ints
    have HEd := Lib.hid hea
    have HBn := Lib.hid hbnd
    clear hx6 HD x0 x1 y0 y1 y2 y3 y4 z0 z1 HLc hv hres hrel h00 hv1 hv31 hv3 ho0 hed hea hbnd HXW F4 F5 F6 F7
    go_upto_region 5 with (refine wpList_store_row rfl 33 (.tmp 11) _ rfl w6.heap.size vs rfl rfl 33 resZ (Blk.new w6 _ resZ) (res_size HS.out) (by rw [HS.out]; rfl) HOn.out ?_)
    change Code.wp _ _ _ _ ((w6.alloc (.cells resZ 33)).setRow w6.heap.size vs)
    obtain ⟨hx7, hb7⟩ := laid_res w6 vs
    generalize (w6.alloc (.cells resZ 33)).setRow w6.heap.size vs = w7 at *
    generalize w6.heap.size = p at *
    have HX7 := Lib.hid (HX6.out.trans hx7)
    have K4 := Lib.hid (J4.out.ext hx7)
    have HB := Lib.hid hb7
    have HI0 := Lib.hid (HO0.out.ext hx7)
    have HE7 := Lib.hid (HEd.out.ext hx7)
    have HL7 := Lib.hid (HL.out.ext HX7.out)
    obtain ⟨hml, hat0, hat1, hat2, hck, hap⟩ := HBn.out
    rw [HI0.out.len] at hml hat1 hat2
    have HAp := Lib.hid (apply_ok HL7.out HE7.out hck)
    rw [hap] at HAp
    obtain ⟨x0, x1⟩ := cells2L K4.out
    have u0 : w7.cell? ⟨p, 0, none⟩ = some (.slice S0 q0 e0) := (HB.out.cell 0).trans HC.out.1
    have u1 : w7.cell? ⟨p, 1, none⟩ = some (.int .i64 at_) := (HB.out.cell 1).trans HC.out.2.1
    have u31 : w7.cell? ⟨p, 31, none⟩ = some (.int .i64 md) := (HB.out.cell 31).trans HC.out.2.2.1
    have u32 : w7.cell? ⟨p, 32, none⟩ = some (.slice O ek ec) := (HB.out.cell 32).trans HC.out.2.2.2
    have HQl := Lib.hid HI0.out.len
    clear hx7 hb7 HX6 J4 HO0 HOn HEd HBn hck hap
    rcases Classical.em (md = 0) with hmd | hmd
    all_goals
      first
        | (have hle : at_ ≤ max 0 ((q0 : Int) - 1) := hat1 hmd
           have hmdb : (md != 0) = false := by simp [hmd]
           clear hat1 hat2 hmd)
        | (have hle : at_ ≤ (q0 : Int) := hat2 hmd
           have hmdb : (md != 0) = true := by simp [hmd]
           clear hat1 hat2 hmd)
      go_wp2_with fail
      refine HAp.out.mono ?_
      rintro e w8 ⟨B, q, r, rfl, hoB, hB0, hx8⟩
      have hq : q = q0 := by rw [← hoB.ints.len]; exact HQl.out
      subst hq
      have HEq := Lib.hid (equal_ext hoB.ints (HI0.out.ext hx8))
      rw [eqB_true.2 rfl] at HEq
      have v0 := hx8.cell u0
      have v1 := hx8.cell u1
      have HX8 := Lib.hid (HX7.out.trans hx8)
      clear hoB hB0 hx8 HAp u0 u1 u31 u32 x0 x1
      go_wp2_with fail
      refine HEq.out.mono ?_
      rintro e w9 ⟨rfl, hx9⟩
      have t0 := hx9.cell v0
      have t1 := hx9.cell v1
      have HX9 := Lib.hid (HX8.out.trans hx9)
      clear HEq hx9 v0 v1
      go_wp2_with fail
      go_ret
      refine ⟨ret_bool ?_, HX9.out⟩
      first
        | rfl
        | (simp; omega)
end Go.Proofs.Ytmhgndjmcignjaa
