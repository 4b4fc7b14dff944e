/-
  The walk of the statement that what was deleted and at once put back makes the line as it was.
-/
import Derived.Test.YtmhgndjmcignjaaZDoY
import Derived.Test.YtmhgndjmcignjaaZJ1

namespace Go.Proofs.Ytmhgndjmcignjaa
open Go.RowKit
set_option linter.unusedVariables false
set_option linter.unusedSimpArgs false

theorem abD_ok : ValidC 2 0 0 0 100 ∧ OneOk (chars ⟨#[97, 98]⟩) 2 0 (fun _ => []) 0 0 100 100 0 0 0 False := by
  refine ⟨⟨⟨by omega, by omega, by omega⟩, ⟨by omega, by omega⟩, .inl rfl, .inr (.inl rfl)⟩, fun h => ?_, fun _ h => ?_, fun _ _ => ⟨rfl, fun h => by omega, fun _ => ⟨0, false, rfl, ?_⟩⟩⟩
  · exact absurd h (by decide)
  · exact absurd h (by decide)
  · unfold putBig
    simp
    rw [show (chars ⟨#[97, 98]⟩).length = 2 by decide +kernel]
    omega
theorem abD_span {f t : Nat} {whole : Bool} {zk za : Int} (h : OpSpan (chars ⟨#[97, 98]⟩) 2 0 0 100 100 0 0 0 f t whole zk za) : f = 0 ∧ t = 2 ∧ zk = 0 ∧ za = 0 := by
  rcases h with ⟨h1, _⟩ | ⟨_, rfl, rfl, h⟩
  · exact absurd h1 (by decide)
  · rcases h with ⟨_, rfl, rfl, _⟩ | ⟨h, _⟩
    · exact ⟨rfl, rfl, rfl, rfl⟩
    · exact absurd rfl h
theorem bool_and3 {p q r s : Prop} [Decidable p] [Decidable q] {a b : Bool} (ha : a = true ↔ r) (hb : b = true ↔ s) : (decide p && (decide q && (a && b))) = true ↔ p ∧ q ∧ r ∧ s := by
  simp [ha, hb]

set_option maxRecDepth 20000 in
set_option maxHeartbeats 8000000 in
theorem editPaste_walk {w : World} {A : Option Addr} {n c : Nat} {a fk fa k1 k2 k3 k4 k5 : Int} {l : List Int} (hl : Ints w A n c l) (wl : ∀ x ∈ l, (Lit.int .i64 x).wf = true) (hA : A = none → c = 0) :
    Calls Try.prog 4 #[.agg #[.slice A n c, .int .i64 a], .agg #[.int .i64 fk, .int .i64 fa], .agg #[.int .i64 k1, .int .i64 k2, .int .i64 k3, .int .i64 k4, .int .i64 k5]] w fun e w' => e = .returned (.bool true) ∧ Ext w w' := by
  have HOf := fun w => Lib.hid (of_ok ⟨#[97, 98]⟩ w (by decide))
  have HL := Lib.hid hl
  have HWl := Lib.hid wl
  have HA := Lib.hid hA
  have hln := Lib.hid hl.len
  have hnc := Lib.hid (Nat.le_trans hl.ncap hl.nmax)
  clear hl hA wl
  obtain ⟨w0, hw0, hx0, hb3, hb4, hb5⟩ := take_start w A n c a fk fa k1 k2 k3 k4 k5
  have HW := Lib.hid hw0
  have HX0 := Lib.hid hx0
  have B3 := Lib.hid hb3
  have B4 := Lib.hid hb4
  have B5 := Lib.hid hb5
  clear hw0 hx0 hb3 hb4 hb5
  go_enter Try.func4, Try.ntmps4
  go_upto_region 1 with fail
  change Code.wp _ _ _ _ (((w.alloc (.cells #[.slice A n c, .int .i64 a] 24)).alloc (.cells #[.int .i64 fk, .int .i64 fa] 26)).alloc (.cells #[.int .i64 k1, .int .i64 k2, .int .i64 k3, .int .i64 k4, .int .i64 k5] 28))
  rw [← HW.out]
  clear HW
  go_wp2_with fail
  refine ((HOf _).out).mono ?_
  rintro e w1 ⟨T1, d1, rfl, ho1, he1⟩
  have hz2 : (⟨#[97, 98]⟩ : ByteArray).size = 2 := rfl
  rw [hz2] at ho1
  have HD1 := Lib.hid (do_op (a := 0) (fk := 0) (fa := 0) (k1 := 0) (k2 := 0) (k3 := 100) (k4 := 100) (k5 := 0) ho1.ints (by decide +kernel) (Own.nocap ho1) (noRegs_regs w1) (by decide))
  rw [noRegs_lit] at HD1
  rw [hz2]
  have HX1 := Lib.hid (HX0.out.trans he1)
  have C3 := Lib.hid (B3.out.ext he1)
  have C4 := Lib.hid (B4.out.ext he1)
  have C5 := Lib.hid (B5.out.ext he1)
  clear ho1 he1 HX0 B3 B4 B5 hz2
  go_wp2_with fail
  refine HD1.out.mono ?_
  rintro e w2 ⟨hx2, ⟨hno, _⟩ | ⟨vs1, f1, t1, wh1, m1, at1, md1, zk1, za1, rl1, ed1, rfl, _, hft1, htn1, hres1, hrel1, hsp1⟩⟩
  · exact absurd abD_ok hno
  have hto1 : rl1 0 = chars ⟨#[97, 98]⟩ := by
    rw [keep_zero hrel1.2.1 hft1]
    obtain ⟨rfl, rfl, _⟩ := abD_span hsp1
    decide +kernel
  have hm1 : m1 = [] ∧ at1 = 0 ∧ zk1 = 0 ∧ za1 = 0 := by
    obtain ⟨rfl, rfl, rfl, rfl⟩ := abD_span hsp1
    obtain ⟨_, _, ⟨h, _⟩ | ⟨_, h1, _, ⟨h, _⟩ | ⟨_, _, h2⟩⟩⟩ := hrel1
    · exact absurd h (by decide)
    · exact absurd h (by decide)
    · have e1 : m1 = [] := by rw [h1]; decide +kernel
      rw [e1] at h2
      exact ⟨e1, by rw [h2]; rfl, rfl, rfl⟩
  obtain ⟨rfl, rfl, rfl, rfl⟩ := hm1
  obtain ⟨S1, q1, e1, hv0, ho0⟩ := hres1.text
  have hq1 : q1 = 0 := by rw [← ho0.ints.len]; rfl
  subst hq1
  have hv1 := hres1.oat
  have hv29 := hres1.c29
  have hv30 := hres1.c30
  have HS1 := Lib.hid hres1.size
  have HOn1 := Lib.hid hres1.one
  have HR1 := Lib.hid hres1.regs'.regs
  have HPC := Lib.hid (part_cells hres1.size)
  have HPS := Lib.hid (part_size hres1.size)
  obtain ⟨RG1, hRG1⟩ : ∃ R, vs1.extract 2 29 = R := ⟨_, rfl⟩
  rw [hRG1] at HR1 HPC HPS
  clear hRG1
  have HO1 := Lib.hid ho0
  have HT1 := Lib.hid hto1
  have HV : Hid (vs1[0]? = some (.slice S1 0 e1) ∧ vs1[1]? = some (.int .i64 0) ∧ vs1[29]? = some (.int .i64 0) ∧ vs1[30]? = some (.int .i64 0)) := Lib.hid ⟨hv0, hv1, hv29, hv30⟩
  have HX2 := Lib.hid (HX1.out.trans hx2)
  have D3 := Lib.hid (C3.out.ext hx2)
  have D4 := Lib.hid (C4.out.ext hx2)
  have D5 := Lib.hid (C5.out.ext hx2)
  clear hx2 HD1 hres1 hrel1 hsp1 hto1 hv0 hv1 hv29 hv30 ho0 HX1 C3 C4 C5 hft1 htn1
  go_upto_region 2 with (refine wpList_store_row rfl 33 (.tmp 7) (.tmp 22) rfl w2.heap.size vs1 rfl rfl 33 resZ (Blk.new w2 _ resZ) (res_size HS1.out) (by rw [HS1.out]; rfl) HOn1.out ?_)
  change Code.wp _ _ _ _ ((w2.alloc (.cells resZ 33)).setRow w2.heap.size vs1)
  obtain ⟨hx3, hb3⟩ := laid_res w2 vs1
  generalize (w2.alloc (.cells resZ 33)).setRow w2.heap.size vs1 = w3 at *
  generalize w2.heap.size = p1 at *
  have HX3 := Lib.hid (HX2.out.trans hx3)
  have E3 := Lib.hid (D3.out.ext hx3)
  have E4 := Lib.hid (D4.out.ext hx3)
  have E5 := Lib.hid (D5.out.ext hx3)
  have HB7 := Lib.hid hb3
  have u0 : w3.cell? ⟨p1, 0, none⟩ = some (.slice S1 0 e1) := (hb3.cell 0).trans HV.out.1
  have u1 : w3.cell? ⟨p1, 1, none⟩ = some (.int .i64 0) := (hb3.cell 1).trans HV.out.2.1
  have u29 : w3.cell? ⟨p1, 29, none⟩ = some (.int .i64 0) := (hb3.cell 29).trans HV.out.2.2.1
  have u30 : w3.cell? ⟨p1, 30, none⟩ = some (.int .i64 0) := (hb3.cell 30).trans HV.out.2.2.2
  have HP1 := Lib.hid (do_put (a := 0) (fk := 0) (fa := 0) (v := 80) (x := chars ⟨#[97, 98]⟩) (HO1.out.ints.ext hx3) (by simp) (Own.nocap HO1.out) (HR1.out.ext hx3) (by omega) (by omega) (by omega) (.inl rfl) (.inl rfl) HT1.out (by decide +kernel) (by decide +kernel))
  clear hx3 hb3 HX2 D3 D4 D5 HO1 HOn1 HR1 HT1 HV
  go_wp2_with (refine wpList_load_at rfl 30 (.tmp 27) rfl p1 2 rfl 33 vs1 RG1 (0, 0) _ HB7.out HPC.out Try.underlying30 rfl HPS.out ?_)
  refine HP1.out.mono ?_
  rintro e w4 ⟨hx4, vs2, m2, at2, md2, zk2, za2, rl2, ed2, rfl, hres2, hm2⟩
  have hm2' : m2 = chars ⟨#[97, 98]⟩ := by rw [hm2]; decide +kernel
  obtain ⟨S2, q2, e2, hv0, ho0⟩ := hres2.text
  rw [hm2'] at ho0
  have HS2 := Lib.hid hres2.size
  have HOn2 := Lib.hid hres2.one
  have HV2 := Lib.hid hv0
  have HO2 := Lib.hid ho0.ints
  have HX4 := Lib.hid (HX3.out.trans hx4)
  have F3 := Lib.hid (E3.out.ext hx4)
  have F4 := Lib.hid (E4.out.ext hx4)
  have F5 := Lib.hid (E5.out.ext hx4)
  clear hx4 hres2 hm2 hm2' hv0 ho0 u0 u1 u29 u30 HP1 HB7 HX3 E3 E4 E5 HS1
  go_upto_region 3 with (refine wpList_store_row rfl 33 (.tmp 9) (.tmp 33) rfl w4.heap.size vs2 rfl rfl 33 resZ (Blk.new w4 _ resZ) (res_size HS2.out) (by rw [HS2.out]; rfl) HOn2.out ?_)
  change Code.wp _ _ _ _ ((w4.alloc (.cells resZ 33)).setRow w4.heap.size vs2)
  obtain ⟨hx5, hb5⟩ := laid_res w4 vs2
  generalize (w4.alloc (.cells resZ 33)).setRow w4.heap.size vs2 = w5 at *
  have HX5 := Lib.hid (HX4.out.trans hx5)
  have G3 := Lib.hid (F3.out.ext hx5)
  have G4 := Lib.hid (F4.out.ext hx5)
  have G5 := Lib.hid (F5.out.ext hx5)
  have c6 : w5.cell? ⟨w4.heap.size, 0, none⟩ = some (.slice S2 q2 e2) := (hb5.cell 0).trans HV2.out
  have HI2 := Lib.hid (HO2.out.ext hx5)
  clear hx5 hb5 HX4 F3 F4 F5 HO2 HOn2 HS2 HV2
  go_cut [48] (fun v wx => v = .bool false ∧ Hid (Ext w5 wx))
  case first =>
    refine wp_region_held_drew (S := fun w' => w'.cell? ⟨w4.heap.size, 0, none⟩ = some (.slice S2 q2 e2)) (by kernel_rfl) c6 (fun hHeld => ?_)
    refine wpAnyH_take (i := 0) (v := (.int .i64 0)) rfl (by kernel_rfl) (by kernel_rfl) (by kernel_rfl) (fun _ _ _ h => h) (Or.inl ⟨by rfl, by (intro w hSw; obtain s0 := hSw; go_simp)⟩) hHeld ?_
    try simp only [List.getElem_toArray, List.getElem_cons_zero, List.getElem_cons_succ, Act.put, List.setIfInBounds_toArray, List.set_cons_zero, List.set_cons_succ]
    refine wpAnyH_take (i := 1) (v := (.bool false)) rfl (by kernel_rfl) (by kernel_rfl) (by kernel_rfl) (fun _ _ _ h => h) (Or.inl ⟨by rfl, by (intro w hSw; obtain s0 := hSw; go_simp)⟩) hHeld ?_
    try simp only [List.getElem_toArray, List.getElem_cons_zero, List.getElem_cons_succ, Act.put, List.setIfInBounds_toArray, List.set_cons_zero, List.set_cons_succ]
    refine wpAnyH_take (i := 2) (v := (.bool false)) rfl (by kernel_rfl) (by kernel_rfl) (by kernel_rfl) (fun _ _ _ h => h) (Or.inl ⟨by rfl, by (intro w hSw; obtain s0 := hSw; go_simp)⟩) hHeld ?_
    try simp only [List.getElem_toArray, List.getElem_cons_zero, List.getElem_cons_succ, Act.put, List.setIfInBounds_toArray, List.set_cons_zero, List.set_cons_succ]
    refine wpAnyH_take (i := 3) (v := (.int .i64 0)) rfl (by kernel_rfl) (by kernel_rfl) (by kernel_rfl) (fun _ _ _ h => h) (Or.inl ⟨by kernel_rfl, by (intro w hSw; obtain s0 := hSw; go_simp)⟩) hHeld ?_
    try simp only [List.getElem_toArray, List.getElem_cons_zero, List.getElem_cons_succ, Act.put, List.setIfInBounds_toArray, List.set_cons_zero, List.set_cons_succ]
    refine wpAnyH_take (i := 4) (v := (.bool false)) rfl (by kernel_rfl) (by kernel_rfl) (by kernel_rfl) (fun _ _ _ h => h) (Or.inl ⟨by kernel_rfl, by (intro w hSw; obtain s0 := hSw; go_simp)⟩) hHeld ?_
    try simp only [List.getElem_toArray, List.getElem_cons_zero, List.getElem_cons_succ, Act.put, List.setIfInBounds_toArray, List.set_cons_zero, List.set_cons_succ]
    refine wpAnyH_take (i := 5) (v := (.bool false)) rfl (by kernel_rfl) (by kernel_rfl) (by kernel_rfl) (fun _ _ _ h => h) (Or.inl ⟨by rfl, by (intro w hSw; obtain s0 := hSw; go_simp)⟩) hHeld ?_
    try simp only [List.getElem_toArray, List.getElem_cons_zero, List.getElem_cons_succ, Act.put, List.setIfInBounds_toArray, List.set_cons_zero, List.set_cons_succ]
    refine wpAnyH_take (i := 6) (v := (.bool false)) rfl (by kernel_rfl) (by kernel_rfl) (by kernel_rfl) (fun _ _ _ h => h) (Or.inl ⟨by rfl, by (intro w hSw; obtain s0 := hSw; go_simp)⟩) hHeld ?_
    try simp only [List.getElem_toArray, List.getElem_cons_zero, List.getElem_cons_succ, Act.put, List.setIfInBounds_toArray, List.set_cons_zero, List.set_cons_succ]
    refine wpAnyH_take (i := 7) (v := (.pointer (some ⟨w4.heap.size, 0, none⟩))) rfl (by kernel_rfl) (by kernel_rfl) (by kernel_rfl) (fun _ _ _ h => h) (Or.inl ⟨by kernel_rfl, by (intro w hSw; obtain s0 := hSw; go_simp)⟩) hHeld ?_
    try simp only [List.getElem_toArray, List.getElem_cons_zero, List.getElem_cons_succ, Act.put, List.setIfInBounds_toArray, List.set_cons_zero, List.set_cons_succ]
    refine wpAnyH_take (i := 8) (v := (.pointer (some ⟨w4.heap.size, 0, none⟩))) rfl (by kernel_rfl) (by kernel_rfl) (by kernel_rfl) (fun _ _ _ h => h) (Or.inl ⟨by kernel_rfl, by (intro w hSw; obtain s0 := hSw; go_simp)⟩) hHeld ?_
    try simp only [List.getElem_toArray, List.getElem_cons_zero, List.getElem_cons_succ, Act.put, List.setIfInBounds_toArray, List.set_cons_zero, List.set_cons_succ]
    refine wpAnyH_take (i := 9) (v := (.slice S2 q2 e2)) rfl (by kernel_rfl) (by kernel_rfl) (by kernel_rfl) (fun _ _ _ h => h) (Or.inl ⟨by kernel_rfl, by (intro w hSw; obtain s0 := hSw; go_simp)⟩) hHeld ?_
    try simp only [List.getElem_toArray, List.getElem_cons_zero, List.getElem_cons_succ, Act.put, List.setIfInBounds_toArray, List.set_cons_zero, List.set_cons_succ]
    refine wpAnyH_ready (rs := [10]) (by kernel_rfl) (by simp) ?_
    refine AllReadyH.cons rfl (fun K hK => ?_) AllReadyH.nil
    refine step_callw (by kernel_rfl) 9 #[.string ⟨#[97, 98]⟩] rfl (by kernel_rfl) (fun v w' => ∃ B d, v = .slice B 2 d ∧ Ints w' B 2 d (chars ⟨#[97, 98]⟩) ∧ Ext w5.drew w') (((HOf _).out).mono fun e w' ⟨B, d, h1, h2, h3⟩ => ⟨_, h1, B, d, rfl, h2.ints, h3⟩) ?_
    rintro v w6 ⟨B9, d9, rfl, hi9, hx6⟩
    refine hK.out _ _ (hx6.cell c6) (fun hHeld2 => ?_)
    clear hK K hHeld
    try simp only [List.getElem_toArray, List.getElem_cons_zero, List.getElem_cons_succ, Act.put, List.setIfInBounds_toArray, List.set_cons_zero, List.set_cons_succ]
    refine wpAnyH_ready (rs := [11]) (by kernel_rfl) (by simp) ?_
    refine AllReadyH.cons rfl (fun K hK => ?_) AllReadyH.nil
    refine step_callw (by kernel_rfl) 10 #[.slice S2 q2 e2, .slice B9 2 d9] rfl (by kernel_rfl) (fun v w' => v = .bool true ∧ Ext w6 w') ((equal_ext (HI2.out.ext ((Ext.drew w5).trans hx6)) hi9).mono fun e w' ⟨h1, h2⟩ => ⟨_, h1, by rw [eqB_true.2 rfl], h2⟩) ?_
    rintro v w7 ⟨rfl, hx7⟩
    refine hK.out _ _ ((hx6.trans hx7).cell c6) (fun hHeld3 => ?_)
    clear hK K hHeld2
    try simp only [List.getElem_toArray, List.getElem_cons_zero, List.getElem_cons_succ, Act.put, List.setIfInBounds_toArray, List.set_cons_zero, List.set_cons_succ]
    refine wpAnyH_take (i := 12) (v := (.bool false)) rfl (by kernel_rfl) (by kernel_rfl) (by kernel_rfl) (fun _ _ _ h => h) (Or.inl ⟨by kernel_rfl, by (intro w hSw; obtain s0 := hSw; go_simp)⟩) hHeld3 ?_
    try simp only [List.getElem_toArray, List.getElem_cons_zero, List.getElem_cons_succ, Act.put, List.setIfInBounds_toArray, List.set_cons_zero, List.set_cons_succ]
    refine wpAnyH_take (i := 13) (v := (.bool false)) rfl (by kernel_rfl) (by kernel_rfl) (by kernel_rfl) (fun _ _ _ h => h) (Or.inl ⟨by rfl, by (intro w hSw; obtain s0 := hSw; go_simp)⟩) hHeld3 ?_
    try simp only [List.getElem_toArray, List.getElem_cons_zero, List.getElem_cons_succ, Act.put, List.setIfInBounds_toArray, List.set_cons_zero, List.set_cons_succ]
    refine wpAnyH_done (by kernel_rfl) ?_ _
    have HXX := Lib.hid (((Ext.drew w5).trans hx6).trans hx7)
    clear hi9 hx6 hx7
    go_wp2_with fail
    go_meet
    exact ⟨rfl, HXX⟩
  case rest =>
    obtain ⟨rfl, HXc⟩ := hcut
    have I3 := Lib.hid (Blk.ext G3.out HXc.out)
    have I4 := Lib.hid (Blk.ext G4.out HXc.out)
    have I5 := Lib.hid (Blk.ext G5.out HXc.out)
    have HXW := Lib.hid (HX5.out.trans HXc.out)
    clear c6 HI2 G3 G4 G5 HX5 HXc HOf
    obtain ⟨x0, x1⟩ := cells2L I3.out
    obtain ⟨z0, z1⟩ := cells2L I4.out
    obtain ⟨y0, y1, y2, y3, y4⟩ := cells5 I5.out
    by_cases h30 : k3 = 100
    case neg =>
      have h3b : (k3 != 100) = true := by simp [h30]
      go_wp2_with fail
      go_ret
      exact ⟨rfl, HXW.out⟩
    subst h30
    by_cases h20 : k2 = 0
    case neg =>
      have h2b : (k2 != 0) = true := by simp [h20]
      go_wp2_with fail
      go_ret
      exact ⟨rfl, HXW.out⟩
    subst h20
    have HLc := Lib.hid (HL.out.ext HXW.out)
    have HD := Lib.hid (do_op (a := a) (fk := fk) (fa := fa) (k1 := k1) (k2 := 0) (k3 := 100) (k4 := k4) (k5 := k5) HLc.out HWl.out HA.out (noRegs_regs wc) (by decide))
    rw [noRegs_lit] at HD
    go_wp2_with fail
    refine HD.out.mono ?_
    rintro e w6 ⟨hx6, ⟨_, er, her, rfl⟩ | ⟨vs, f, t, wh, m, at_, md, zk, za, rl', ed, rfl, hv, hft, htn, hres, hrel, _⟩⟩
    · have HX6 := Lib.hid (HXW.out.trans hx6)
      have herb : (er != 0) = true := by simp [her]
      clear hx6 HD x0 x1 y0 y1 y2 y3 y4 z0 z1 HLc
      go_wp2_with (refine wpList_store_row rfl 33 (.tmp 11) _ rfl w6.heap.size resZ rfl rfl 33 resZ (Blk.new w6 _ resZ) (res_size rfl) rfl resZ_one ?_)
      go_ret
      exact ⟨rfl, Ext.trans HX6.out (laid_res w6 resZ).1⟩
    have hto : rl' 0 = (l.drop f).take (t - f) := keep_zero hrel.2.1 hft
    have hlt : f < t := by
      have := hrel.1
      by_cases h : f = t
      · have := this h; omega
      · omega
    obtain ⟨_, _, ⟨h, _⟩ | ⟨_, hm, _, ⟨h, _⟩ | ⟨_, _, hat⟩⟩⟩ := hrel
    · exact absurd h (by decide)
    · exact absurd h (by decide)
    obtain ⟨v2, hv2, hr2⟩ := hres.regs 0 (by omega)
    rw [hto] at hr2
    obtain ⟨X2, r2, d2, rfl, ho2, _, _⟩ := hr2
    obtain ⟨S0, q0, e0, h00, ho0⟩ := hres.text
    obtain ⟨v3, hv3, hed⟩ := hres.edit
    obtain ⟨O, ek, ec, rfl, hea⟩ := hed.at_
    have hekn := hea.ncap
    have hekm := hea.nmax
    unfold maxLen at hekm
    have hv1 := hres.oat
    have HVd := Lib.hid hv
    have HFT : Hid (f < t ∧ t ≤ n) := Lib.hid ⟨hlt, htn⟩
    have HTo := Lib.hid hto
    have HM := Lib.hid hm
    have HAt := Lib.hid hat
    have HX6 := Lib.hid (HXW.out.trans hx6)
    have J3 := Lib.hid (I3.out.ext hx6)
    have J4 := Lib.hid (I4.out.ext hx6)
    have HS := Lib.hid hres.size
    have HOn := Lib.hid hres.one
    have HRg := Lib.hid hres.regs'.regs
    have HQC := Lib.hid (part_cells hres.size)
    have HQS := Lib.hid (part_size hres.size)
    obtain ⟨RG, hRG⟩ : ∃ R, vs.extract 2 29 = R := ⟨_, rfl⟩
    rw [hRG] at HRg HQC HQS
    clear hRG
    have HC : Hid (vs[0]? = some (.slice S0 q0 e0) ∧ vs[1]? = some (.int .i64 at_) ∧ vs[2]? = some (.slice X2 r2 d2) ∧ vs[32]? = some (.slice O ek ec)) := Lib.hid ⟨h00, hv1, hv2, hv3⟩
    have HO0 := Lib.hid ho0
    have HO2 := Lib.hid ho2.ints
    clear hx6 HD x0 x1 y0 y1 y2 y3 y4 z0 z1 HLc hv hft htn hres hto hm hat hv2 ho2 h00 ho0 hv3 hed hea hv1 HXW I3 I4 I5 hlt
    go_upto_region 8 with (refine wpList_store_row rfl 33 (.tmp 11) _ rfl w6.heap.size vs rfl rfl 33 resZ (Blk.new w6 _ resZ) (res_size HS.out) (by rw [HS.out]; rfl) HOn.out ?_)
    change Code.wp _ _ _ _ ((w6.alloc (.cells resZ 33)).setRow w6.heap.size vs)
    obtain ⟨hx7, hb7⟩ := laid_res w6 vs
    generalize (w6.alloc (.cells resZ 33)).setRow w6.heap.size vs = w7 at *
    generalize w6.heap.size = p at *
    have HX7 := Lib.hid (HX6.out.trans hx7)
    have K3 := Lib.hid (J3.out.ext hx7)
    have K4 := Lib.hid (J4.out.ext hx7)
    have HB := Lib.hid hb7
    have HI0 := Lib.hid (HO0.out.ints.ext hx7)
    have HI2 := Lib.hid (HO2.out.ext hx7)
    have HL7 := Lib.hid (HL.out.ext HX7.out)
    have HR7 := Lib.hid (HRg.out.ext hx7)
    have HNc := Lib.hid (Own.nocap HO0.out)
    have u32 : w7.cell? ⟨p, 32, none⟩ = some (.slice O ek ec) := (hb7.cell 32).trans HC.out.2.2.2
    clear hx7 hb7 HX6 J3 J4 HO0 HO2 HOn HRg
    by_cases hek : ek = 1
    case neg =>
      have hekb : ((ek : Int) != 1) = true := by simp; omega
      go_wp2_with fail
      go_ret
      exact ⟨rfl, HX7.out⟩
    subst hek
    clear hekn hekm
    have HN : Hid (n ≤ 200 ∧ 0 ≤ a ∧ a ≤ max 0 ((n : Int) - 1)) := Lib.hid HVd.out.1
    have hq0 : q0 + (t - f) = n := by
      rw [← HI0.out.len, HM.out]
      have := hln.out
      have := HFT.out
      simp
      omega
    have hqn : q0 ≤ 200 := by have := HN.out.1; omega
    have hq0n : q0 ≤ n := by omega
    have HQ0 := Lib.hid hq0
    have hnc9 : n ≤ c := HL7.out.ncap
    have hcm : c ≤ 9223372036854775807 := by have := HL7.out.nmax; unfold maxLen at this; exact this
    have hq0c : q0 ≤ c := by omega
    have HAt0 : Hid (0 ≤ at_ ∧ at_ ≤ max 0 ((q0 : Int) - 1)) := Lib.hid (by rw [HAt.out, HI0.out.len]; omega)
    clear hq0
    obtain ⟨x0, x1⟩ := cells2L K3.out
    have u0 : w7.cell? ⟨p, 0, none⟩ = some (.slice S0 q0 e0) := (HB.out.cell 0).trans HC.out.1
    have u1 : w7.cell? ⟨p, 1, none⟩ = some (.int .i64 at_) := (HB.out.cell 1).trans HC.out.2.1
    have u2 : w7.cell? ⟨p, 2, none⟩ = some (.slice X2 r2 d2) := (HB.out.cell 2).trans HC.out.2.2.1
    obtain ⟨T2, hT2⟩ : ∃ T2, (if c = q0 then A else Option.map (fun x => x.add q0) A) = T2 := ⟨_, rfl⟩
    have HQ1 : Hid (∀ wx, Ext w7 wx → Calls Try.prog 10 #[.slice S0 q0 e0, .slice A q0 c] wx fun e w' => e = .returned (.bool (eqB m (l.take q0))) ∧ Ext wx w') := Lib.hid fun wx he => equal_ext (HI0.out.ext he) ((HL7.out.ext he).front hq0n)
    have HQ2 : Hid (∀ wx, Ext w7 wx → Calls Try.prog 10 #[.slice X2 r2 d2, .slice T2 (n - q0) (c - q0)] wx fun e w' => e = .returned (.bool (eqB ((l.drop f).take (t - f)) (l.drop q0))) ∧ Ext wx w') := Lib.hid fun wx he => by
      have h := (HL7.out.ext he).cut hq0n (Nat.le_refl n)
      rw [hT2] at h
      have hh : (l.drop q0).take (n - q0) = l.drop q0 := List.take_of_length_le (by rw [List.length_drop, hln.out]; exact Nat.le_refl _)
      rw [hh] at h
      exact equal_ext (HI2.out.ext he) h
    obtain ⟨b, hb⟩ : ∃ b : Bool, (decide (0 < q0) && (decide (at_ = (q0 : Int) - 1) && (eqB m (l.take q0) && eqB ((l.drop f).take (t - f)) (l.drop q0)))) = b := ⟨_, rfl⟩
    have HBb : Hid (b = true ↔ 0 < m.length ∧ at_ = (m.length : Int) - 1 ∧ m = l.take m.length ∧ (l.drop f).take (t - f) = l.drop m.length) := Lib.hid (by
      rw [← hb, HI0.out.len]
      exact bool_and3 eqB_true eqB_true)
    have HBack := Lib.hid (paste_back hln.out (Nat.le_of_lt HFT.out.1) HFT.out.2 HM.out HAt.out HBb.out)
    have HBd := Lib.hid hb
    clear hb
    go_upto_region 12 with fail
    go_cut [106] (fun v wx => v = .bool b ∧ Hid (Ext w7 wx))
    case first =>
      have hwr : IntKind.i64.wrap ((q0 : Int) - 1) = (q0 : Int) - 1 := IntWalk.i64_in _ (by omega)
      by_cases h1 : 0 < q0
      case neg =>
        have hbf : b = false := by rw [← HBd.out]; simp [h1]
        subst hbf
        clear HBack HBb HBd
        refine wp_region_held_drew (S := fun w' => w'.cell? ⟨w.heap.size, 0, none⟩ = some (.slice A n c) ∧ w'.cell? ⟨p, 0, none⟩ = some (.slice S0 q0 e0) ∧ w'.cell? ⟨p, 1, none⟩ = some (.int .i64 at_) ∧ w'.cell? ⟨p, 2, none⟩ = some (.slice X2 r2 d2)) (by kernel_rfl) ⟨x0, u0, u1, u2⟩ (fun hHeld => ?_)
        refine wpAnyH_take (i := 0) (v := (.int .i64 (q0 : Int))) rfl (by kernel_rfl) (by kernel_rfl) (by kernel_rfl) (fun _ _ _ h => h) (Or.inl ⟨by rfl, by (intro w hSw; obtain ⟨s0, s1, s2, s3⟩ := hSw; go_simp)⟩) hHeld ?_
        try simp only [List.getElem_toArray, List.getElem_cons_zero, List.getElem_cons_succ, Act.put, List.setIfInBounds_toArray, List.set_cons_zero, List.set_cons_succ]
        refine wpAnyH_take (i := 1) (v := (.bool false)) rfl (by kernel_rfl) (by kernel_rfl) (by kernel_rfl) (fun _ _ _ h => h) (Or.inl ⟨by rfl, by (intro w hSw; obtain ⟨s0, s1, s2, s3⟩ := hSw; go_simp)⟩) hHeld ?_
        try simp only [List.getElem_toArray, List.getElem_cons_zero, List.getElem_cons_succ, Act.put, List.setIfInBounds_toArray, List.set_cons_zero, List.set_cons_succ]
        refine wpAnyH_take (i := 2) (v := (.bool false)) rfl (by kernel_rfl) (by kernel_rfl) (by kernel_rfl) (fun _ _ _ h => h) (Or.inl ⟨by rfl, by (intro w hSw; obtain ⟨s0, s1, s2, s3⟩ := hSw; go_simp)⟩) hHeld ?_
        try simp only [List.getElem_toArray, List.getElem_cons_zero, List.getElem_cons_succ, Act.put, List.setIfInBounds_toArray, List.set_cons_zero, List.set_cons_succ]
        refine wpAnyH_take (i := 3) (v := undef) rfl (by kernel_rfl) (by kernel_rfl) (by kernel_rfl) (fun _ _ _ h => h) (Or.inr ⟨by kernel_rfl, rfl⟩) hHeld ?_
        try simp only [List.getElem_toArray, List.getElem_cons_zero, List.getElem_cons_succ, Act.put, List.setIfInBounds_toArray, List.set_cons_zero, List.set_cons_succ]
        refine wpAnyH_take (i := 4) (v := undef) rfl (by kernel_rfl) (by kernel_rfl) (by kernel_rfl) (fun _ _ _ h => h) (Or.inr ⟨by kernel_rfl, rfl⟩) hHeld ?_
        try simp only [List.getElem_toArray, List.getElem_cons_zero, List.getElem_cons_succ, Act.put, List.setIfInBounds_toArray, List.set_cons_zero, List.set_cons_succ]
        refine wpAnyH_take (i := 5) (v := undef) rfl (by kernel_rfl) (by kernel_rfl) (by kernel_rfl) (fun _ _ _ h => h) (Or.inr ⟨by kernel_rfl, rfl⟩) hHeld ?_
        try simp only [List.getElem_toArray, List.getElem_cons_zero, List.getElem_cons_succ, Act.put, List.setIfInBounds_toArray, List.set_cons_zero, List.set_cons_succ]
        refine wpAnyH_take (i := 6) (v := undef) rfl (by kernel_rfl) (by kernel_rfl) (by kernel_rfl) (fun _ _ _ h => h) (Or.inr ⟨by kernel_rfl, rfl⟩) hHeld ?_
        try simp only [List.getElem_toArray, List.getElem_cons_zero, List.getElem_cons_succ, Act.put, List.setIfInBounds_toArray, List.set_cons_zero, List.set_cons_succ]
        refine wpAnyH_take (i := 7) (v := undef) rfl (by kernel_rfl) (by kernel_rfl) (by kernel_rfl) (fun _ _ _ h => h) (Or.inr ⟨by kernel_rfl, rfl⟩) hHeld ?_
        try simp only [List.getElem_toArray, List.getElem_cons_zero, List.getElem_cons_succ, Act.put, List.setIfInBounds_toArray, List.set_cons_zero, List.set_cons_succ]
        refine wpAnyH_take (i := 8) (v := undef) rfl (by kernel_rfl) (by kernel_rfl) (by kernel_rfl) (fun _ _ _ h => h) (Or.inr ⟨by kernel_rfl, rfl⟩) hHeld ?_
        try simp only [List.getElem_toArray, List.getElem_cons_zero, List.getElem_cons_succ, Act.put, List.setIfInBounds_toArray, List.set_cons_zero, List.set_cons_succ]
        refine wpAnyH_take (i := 9) (v := (.bool false)) rfl (by kernel_rfl) (by kernel_rfl) (by kernel_rfl) (fun _ _ _ h => h) (Or.inl ⟨by rfl, by (intro w hSw; obtain ⟨s0, s1, s2, s3⟩ := hSw; go_simp)⟩) hHeld ?_
        try simp only [List.getElem_toArray, List.getElem_cons_zero, List.getElem_cons_succ, Act.put, List.setIfInBounds_toArray, List.set_cons_zero, List.set_cons_succ]
        refine wpAnyH_take (i := 10) (v := (.bool false)) rfl (by kernel_rfl) (by kernel_rfl) (by kernel_rfl) (fun _ _ _ h => h) (Or.inl ⟨by rfl, by (intro w hSw; obtain ⟨s0, s1, s2, s3⟩ := hSw; go_simp)⟩) hHeld ?_
        try simp only [List.getElem_toArray, List.getElem_cons_zero, List.getElem_cons_succ, Act.put, List.setIfInBounds_toArray, List.set_cons_zero, List.set_cons_succ]
        refine wpAnyH_take (i := 11) (v := undef) rfl (by kernel_rfl) (by kernel_rfl) (by kernel_rfl) (fun _ _ _ h => h) (Or.inr ⟨by kernel_rfl, rfl⟩) hHeld ?_
        try simp only [List.getElem_toArray, List.getElem_cons_zero, List.getElem_cons_succ, Act.put, List.setIfInBounds_toArray, List.set_cons_zero, List.set_cons_succ]
        refine wpAnyH_take (i := 12) (v := undef) rfl (by kernel_rfl) (by kernel_rfl) (by kernel_rfl) (fun _ _ _ h => h) (Or.inr ⟨by kernel_rfl, rfl⟩) hHeld ?_
        try simp only [List.getElem_toArray, List.getElem_cons_zero, List.getElem_cons_succ, Act.put, List.setIfInBounds_toArray, List.set_cons_zero, List.set_cons_succ]
        refine wpAnyH_take (i := 13) (v := undef) rfl (by kernel_rfl) (by kernel_rfl) (by kernel_rfl) (fun _ _ _ h => h) (Or.inr ⟨by kernel_rfl, rfl⟩) hHeld ?_
        try simp only [List.getElem_toArray, List.getElem_cons_zero, List.getElem_cons_succ, Act.put, List.setIfInBounds_toArray, List.set_cons_zero, List.set_cons_succ]
        refine wpAnyH_take (i := 14) (v := undef) rfl (by kernel_rfl) (by kernel_rfl) (by kernel_rfl) (fun _ _ _ h => h) (Or.inr ⟨by kernel_rfl, rfl⟩) hHeld ?_
        try simp only [List.getElem_toArray, List.getElem_cons_zero, List.getElem_cons_succ, Act.put, List.setIfInBounds_toArray, List.set_cons_zero, List.set_cons_succ]
        refine wpAnyH_take (i := 15) (v := undef) rfl (by kernel_rfl) (by kernel_rfl) (by kernel_rfl) (fun _ _ _ h => h) (Or.inr ⟨by kernel_rfl, rfl⟩) hHeld ?_
        try simp only [List.getElem_toArray, List.getElem_cons_zero, List.getElem_cons_succ, Act.put, List.setIfInBounds_toArray, List.set_cons_zero, List.set_cons_succ]
        refine wpAnyH_take (i := 16) (v := undef) rfl (by kernel_rfl) (by kernel_rfl) (by kernel_rfl) (fun _ _ _ h => h) (Or.inr ⟨by kernel_rfl, rfl⟩) hHeld ?_
        try simp only [List.getElem_toArray, List.getElem_cons_zero, List.getElem_cons_succ, Act.put, List.setIfInBounds_toArray, List.set_cons_zero, List.set_cons_succ]
        refine wpAnyH_take (i := 17) (v := undef) rfl (by kernel_rfl) (by kernel_rfl) (by kernel_rfl) (fun _ _ _ h => h) (Or.inr ⟨by kernel_rfl, rfl⟩) hHeld ?_
        try simp only [List.getElem_toArray, List.getElem_cons_zero, List.getElem_cons_succ, Act.put, List.setIfInBounds_toArray, List.set_cons_zero, List.set_cons_succ]
        refine wpAnyH_take (i := 18) (v := undef) rfl (by kernel_rfl) (by kernel_rfl) (by kernel_rfl) (fun _ _ _ h => h) (Or.inr ⟨by kernel_rfl, rfl⟩) hHeld ?_
        try simp only [List.getElem_toArray, List.getElem_cons_zero, List.getElem_cons_succ, Act.put, List.setIfInBounds_toArray, List.set_cons_zero, List.set_cons_succ]
        refine wpAnyH_take (i := 19) (v := (.bool false)) rfl (by kernel_rfl) (by kernel_rfl) (by kernel_rfl) (fun _ _ _ h => h) (Or.inl ⟨by rfl, by (intro w hSw; obtain ⟨s0, s1, s2, s3⟩ := hSw; go_simp)⟩) hHeld ?_
        try simp only [List.getElem_toArray, List.getElem_cons_zero, List.getElem_cons_succ, Act.put, List.setIfInBounds_toArray, List.set_cons_zero, List.set_cons_succ]
        refine wpAnyH_take (i := 20) (v := (.bool false)) rfl (by kernel_rfl) (by kernel_rfl) (by kernel_rfl) (fun _ _ _ h => h) (Or.inl ⟨by rfl, by (intro w hSw; obtain ⟨s0, s1, s2, s3⟩ := hSw; go_simp)⟩) hHeld ?_
        try simp only [List.getElem_toArray, List.getElem_cons_zero, List.getElem_cons_succ, Act.put, List.setIfInBounds_toArray, List.set_cons_zero, List.set_cons_succ]
        refine wpAnyH_take (i := 21) (v := undef) rfl (by kernel_rfl) (by kernel_rfl) (by kernel_rfl) (fun _ _ _ h => h) (Or.inr ⟨by kernel_rfl, rfl⟩) hHeld ?_
        try simp only [List.getElem_toArray, List.getElem_cons_zero, List.getElem_cons_succ, Act.put, List.setIfInBounds_toArray, List.set_cons_zero, List.set_cons_succ]
        refine wpAnyH_take (i := 22) (v := undef) rfl (by kernel_rfl) (by kernel_rfl) (by kernel_rfl) (fun _ _ _ h => h) (Or.inr ⟨by kernel_rfl, rfl⟩) hHeld ?_
        try simp only [List.getElem_toArray, List.getElem_cons_zero, List.getElem_cons_succ, Act.put, List.setIfInBounds_toArray, List.set_cons_zero, List.set_cons_succ]
        refine wpAnyH_take (i := 23) (v := undef) rfl (by kernel_rfl) (by kernel_rfl) (by kernel_rfl) (fun _ _ _ h => h) (Or.inr ⟨by kernel_rfl, rfl⟩) hHeld ?_
        try simp only [List.getElem_toArray, List.getElem_cons_zero, List.getElem_cons_succ, Act.put, List.setIfInBounds_toArray, List.set_cons_zero, List.set_cons_succ]
        refine wpAnyH_take (i := 24) (v := undef) rfl (by kernel_rfl) (by kernel_rfl) (by kernel_rfl) (fun _ _ _ h => h) (Or.inr ⟨by kernel_rfl, rfl⟩) hHeld ?_
        try simp only [List.getElem_toArray, List.getElem_cons_zero, List.getElem_cons_succ, Act.put, List.setIfInBounds_toArray, List.set_cons_zero, List.set_cons_succ]
        refine wpAnyH_take (i := 25) (v := undef) rfl (by kernel_rfl) (by kernel_rfl) (by kernel_rfl) (fun _ _ _ h => h) (Or.inr ⟨by kernel_rfl, rfl⟩) hHeld ?_
        try simp only [List.getElem_toArray, List.getElem_cons_zero, List.getElem_cons_succ, Act.put, List.setIfInBounds_toArray, List.set_cons_zero, List.set_cons_succ]
        refine wpAnyH_take (i := 26) (v := undef) rfl (by kernel_rfl) (by kernel_rfl) (by kernel_rfl) (fun _ _ _ h => h) (Or.inr ⟨by kernel_rfl, rfl⟩) hHeld ?_
        try simp only [List.getElem_toArray, List.getElem_cons_zero, List.getElem_cons_succ, Act.put, List.setIfInBounds_toArray, List.set_cons_zero, List.set_cons_succ]
        refine wpAnyH_take (i := 27) (v := undef) rfl (by kernel_rfl) (by kernel_rfl) (by kernel_rfl) (fun _ _ _ h => h) (Or.inr ⟨by kernel_rfl, rfl⟩) hHeld ?_
        try simp only [List.getElem_toArray, List.getElem_cons_zero, List.getElem_cons_succ, Act.put, List.setIfInBounds_toArray, List.set_cons_zero, List.set_cons_succ]
        refine wpAnyH_take (i := 28) (v := undef) rfl (by kernel_rfl) (by kernel_rfl) (by kernel_rfl) (fun _ _ _ h => h) (Or.inr ⟨by kernel_rfl, rfl⟩) hHeld ?_
        try simp only [List.getElem_toArray, List.getElem_cons_zero, List.getElem_cons_succ, Act.put, List.setIfInBounds_toArray, List.set_cons_zero, List.set_cons_succ]
        refine wpAnyH_take (i := 29) (v := (.bool false)) rfl (by kernel_rfl) (by kernel_rfl) (by kernel_rfl) (fun _ _ _ h => h) (Or.inl ⟨by rfl, by (intro w hSw; obtain ⟨s0, s1, s2, s3⟩ := hSw; go_simp)⟩) hHeld ?_
        try simp only [List.getElem_toArray, List.getElem_cons_zero, List.getElem_cons_succ, Act.put, List.setIfInBounds_toArray, List.set_cons_zero, List.set_cons_succ]
        refine wpAnyH_done (by kernel_rfl) ?_ _
        have HXX := Lib.hid (Ext.drew w7)
        go_wp2_with fail
        go_meet
        exact ⟨rfl, HXX⟩
      by_cases h2 : at_ = (q0 : Int) - 1
      case neg =>
        have hbf : b = false := by rw [← HBd.out]; simp [h2]
        have h2b : (at_ == (q0 : Int) - 1) = false := by simp [h2]
        subst hbf
        clear HBack HBb HBd h2 hT2
        refine wp_region_held_drew (S := fun w' => w'.cell? ⟨w.heap.size, 0, none⟩ = some (.slice A n c) ∧ w'.cell? ⟨p, 0, none⟩ = some (.slice S0 q0 e0) ∧ w'.cell? ⟨p, 1, none⟩ = some (.int .i64 at_) ∧ w'.cell? ⟨p, 2, none⟩ = some (.slice X2 r2 d2)) (by kernel_rfl) ⟨x0, u0, u1, u2⟩ (fun hHeld => ?_)
        refine wpAnyH_take (i := 0) (v := (.int .i64 (q0 : Int))) rfl (by kernel_rfl) (by kernel_rfl) (by kernel_rfl) (fun _ _ _ h => h) (Or.inl ⟨by rfl, by (intro w hSw; obtain ⟨s0, s1, s2, s3⟩ := hSw; go_simp)⟩) hHeld ?_
        try simp only [List.getElem_toArray, List.getElem_cons_zero, List.getElem_cons_succ, Act.put, List.setIfInBounds_toArray, List.set_cons_zero, List.set_cons_succ]
        refine wpAnyH_take (i := 1) (v := (.bool true)) rfl (by kernel_rfl) (by kernel_rfl) (by kernel_rfl) (fun _ _ _ h => h) (Or.inl ⟨by rfl, by (intro w hSw; obtain ⟨s0, s1, s2, s3⟩ := hSw; go_simp)⟩) hHeld ?_
        try simp only [List.getElem_toArray, List.getElem_cons_zero, List.getElem_cons_succ, Act.put, List.setIfInBounds_toArray, List.set_cons_zero, List.set_cons_succ]
        refine wpAnyH_take (i := 2) (v := (.bool true)) rfl (by kernel_rfl) (by kernel_rfl) (by kernel_rfl) (fun _ _ _ h => h) (Or.inl ⟨by rfl, by (intro w hSw; obtain ⟨s0, s1, s2, s3⟩ := hSw; go_simp)⟩) hHeld ?_
        try simp only [List.getElem_toArray, List.getElem_cons_zero, List.getElem_cons_succ, Act.put, List.setIfInBounds_toArray, List.set_cons_zero, List.set_cons_succ]
        refine wpAnyH_take (i := 3) (v := (.pointer (some ⟨p, 0, none⟩))) rfl (by kernel_rfl) (by kernel_rfl) (by kernel_rfl) (fun _ _ _ h => h) (Or.inl ⟨by kernel_rfl, by (intro w hSw; obtain ⟨s0, s1, s2, s3⟩ := hSw; go_simp)⟩) hHeld ?_
        try simp only [List.getElem_toArray, List.getElem_cons_zero, List.getElem_cons_succ, Act.put, List.setIfInBounds_toArray, List.set_cons_zero, List.set_cons_succ]
        refine wpAnyH_take (i := 4) (v := (.pointer (some ⟨p, 1, none⟩))) rfl (by kernel_rfl) (by kernel_rfl) (by kernel_rfl) (fun _ _ _ h => h) (Or.inl ⟨by kernel_rfl, by (intro w hSw; obtain ⟨s0, s1, s2, s3⟩ := hSw; go_simp)⟩) hHeld ?_
        try simp only [List.getElem_toArray, List.getElem_cons_zero, List.getElem_cons_succ, Act.put, List.setIfInBounds_toArray, List.set_cons_zero, List.set_cons_succ]
        refine wpAnyH_take (i := 5) (v := (.int .i64 at_)) rfl (by kernel_rfl) (by kernel_rfl) (by kernel_rfl) (fun _ _ _ h => h) (Or.inl ⟨by kernel_rfl, by (intro w hSw; obtain ⟨s0, s1, s2, s3⟩ := hSw; go_simp)⟩) hHeld ?_
        try simp only [List.getElem_toArray, List.getElem_cons_zero, List.getElem_cons_succ, Act.put, List.setIfInBounds_toArray, List.set_cons_zero, List.set_cons_succ]
        refine wpAnyH_take (i := 6) (v := (.int .i64 (q0 : Int))) rfl (by kernel_rfl) (by kernel_rfl) (by kernel_rfl) (fun _ _ _ h => h) (Or.inl ⟨by kernel_rfl, by (intro w hSw; obtain ⟨s0, s1, s2, s3⟩ := hSw; go_simp)⟩) hHeld ?_
        try simp only [List.getElem_toArray, List.getElem_cons_zero, List.getElem_cons_succ, Act.put, List.setIfInBounds_toArray, List.set_cons_zero, List.set_cons_succ]
        refine wpAnyH_take (i := 7) (v := (.int .i64 ((q0 : Int) - 1))) rfl (by kernel_rfl) (by kernel_rfl) (by kernel_rfl) (fun _ _ _ h => h) (Or.inl ⟨by kernel_rfl, by (intro w hSw; obtain ⟨s0, s1, s2, s3⟩ := hSw; go_simp)⟩) hHeld ?_
        try simp only [List.getElem_toArray, List.getElem_cons_zero, List.getElem_cons_succ, Act.put, List.setIfInBounds_toArray, List.set_cons_zero, List.set_cons_succ]
        refine wpAnyH_take (i := 8) (v := (.bool false)) rfl (by kernel_rfl) (by kernel_rfl) (by kernel_rfl) (fun _ _ _ h => h) (Or.inl ⟨by kernel_rfl, by (intro w hSw; obtain ⟨s0, s1, s2, s3⟩ := hSw; go_simp)⟩) hHeld ?_
        try simp only [List.getElem_toArray, List.getElem_cons_zero, List.getElem_cons_succ, Act.put, List.setIfInBounds_toArray, List.set_cons_zero, List.set_cons_succ]
        refine wpAnyH_take (i := 9) (v := (.bool false)) rfl (by kernel_rfl) (by kernel_rfl) (by kernel_rfl) (fun _ _ _ h => h) (Or.inl ⟨by rfl, by (intro w hSw; obtain ⟨s0, s1, s2, s3⟩ := hSw; go_simp)⟩) hHeld ?_
        try simp only [List.getElem_toArray, List.getElem_cons_zero, List.getElem_cons_succ, Act.put, List.setIfInBounds_toArray, List.set_cons_zero, List.set_cons_succ]
        refine wpAnyH_take (i := 10) (v := (.bool false)) rfl (by kernel_rfl) (by kernel_rfl) (by kernel_rfl) (fun _ _ _ h => h) (Or.inl ⟨by rfl, by (intro w hSw; obtain ⟨s0, s1, s2, s3⟩ := hSw; go_simp)⟩) hHeld ?_
        try simp only [List.getElem_toArray, List.getElem_cons_zero, List.getElem_cons_succ, Act.put, List.setIfInBounds_toArray, List.set_cons_zero, List.set_cons_succ]
        refine wpAnyH_take (i := 11) (v := undef) rfl (by kernel_rfl) (by kernel_rfl) (by kernel_rfl) (fun _ _ _ h => h) (Or.inr ⟨by kernel_rfl, rfl⟩) hHeld ?_
        try simp only [List.getElem_toArray, List.getElem_cons_zero, List.getElem_cons_succ, Act.put, List.setIfInBounds_toArray, List.set_cons_zero, List.set_cons_succ]
        refine wpAnyH_take (i := 12) (v := undef) rfl (by kernel_rfl) (by kernel_rfl) (by kernel_rfl) (fun _ _ _ h => h) (Or.inr ⟨by kernel_rfl, rfl⟩) hHeld ?_
        try simp only [List.getElem_toArray, List.getElem_cons_zero, List.getElem_cons_succ, Act.put, List.setIfInBounds_toArray, List.set_cons_zero, List.set_cons_succ]
        refine wpAnyH_take (i := 13) (v := undef) rfl (by kernel_rfl) (by kernel_rfl) (by kernel_rfl) (fun _ _ _ h => h) (Or.inr ⟨by kernel_rfl, rfl⟩) hHeld ?_
        try simp only [List.getElem_toArray, List.getElem_cons_zero, List.getElem_cons_succ, Act.put, List.setIfInBounds_toArray, List.set_cons_zero, List.set_cons_succ]
        refine wpAnyH_take (i := 14) (v := undef) rfl (by kernel_rfl) (by kernel_rfl) (by kernel_rfl) (fun _ _ _ h => h) (Or.inr ⟨by kernel_rfl, rfl⟩) hHeld ?_
        try simp only [List.getElem_toArray, List.getElem_cons_zero, List.getElem_cons_succ, Act.put, List.setIfInBounds_toArray, List.set_cons_zero, List.set_cons_succ]
        refine wpAnyH_take (i := 15) (v := undef) rfl (by kernel_rfl) (by kernel_rfl) (by kernel_rfl) (fun _ _ _ h => h) (Or.inr ⟨by kernel_rfl, rfl⟩) hHeld ?_
        try simp only [List.getElem_toArray, List.getElem_cons_zero, List.getElem_cons_succ, Act.put, List.setIfInBounds_toArray, List.set_cons_zero, List.set_cons_succ]
        refine wpAnyH_take (i := 16) (v := undef) rfl (by kernel_rfl) (by kernel_rfl) (by kernel_rfl) (fun _ _ _ h => h) (Or.inr ⟨by kernel_rfl, rfl⟩) hHeld ?_
        try simp only [List.getElem_toArray, List.getElem_cons_zero, List.getElem_cons_succ, Act.put, List.setIfInBounds_toArray, List.set_cons_zero, List.set_cons_succ]
        refine wpAnyH_take (i := 17) (v := undef) rfl (by kernel_rfl) (by kernel_rfl) (by kernel_rfl) (fun _ _ _ h => h) (Or.inr ⟨by kernel_rfl, rfl⟩) hHeld ?_
        try simp only [List.getElem_toArray, List.getElem_cons_zero, List.getElem_cons_succ, Act.put, List.setIfInBounds_toArray, List.set_cons_zero, List.set_cons_succ]
        refine wpAnyH_take (i := 18) (v := undef) rfl (by kernel_rfl) (by kernel_rfl) (by kernel_rfl) (fun _ _ _ h => h) (Or.inr ⟨by kernel_rfl, rfl⟩) hHeld ?_
        try simp only [List.getElem_toArray, List.getElem_cons_zero, List.getElem_cons_succ, Act.put, List.setIfInBounds_toArray, List.set_cons_zero, List.set_cons_succ]
        refine wpAnyH_take (i := 19) (v := (.bool false)) rfl (by kernel_rfl) (by kernel_rfl) (by kernel_rfl) (fun _ _ _ h => h) (Or.inl ⟨by rfl, by (intro w hSw; obtain ⟨s0, s1, s2, s3⟩ := hSw; go_simp)⟩) hHeld ?_
        try simp only [List.getElem_toArray, List.getElem_cons_zero, List.getElem_cons_succ, Act.put, List.setIfInBounds_toArray, List.set_cons_zero, List.set_cons_succ]
        refine wpAnyH_take (i := 20) (v := (.bool false)) rfl (by kernel_rfl) (by kernel_rfl) (by kernel_rfl) (fun _ _ _ h => h) (Or.inl ⟨by rfl, by (intro w hSw; obtain ⟨s0, s1, s2, s3⟩ := hSw; go_simp)⟩) hHeld ?_
        try simp only [List.getElem_toArray, List.getElem_cons_zero, List.getElem_cons_succ, Act.put, List.setIfInBounds_toArray, List.set_cons_zero, List.set_cons_succ]
        refine wpAnyH_take (i := 21) (v := undef) rfl (by kernel_rfl) (by kernel_rfl) (by kernel_rfl) (fun _ _ _ h => h) (Or.inr ⟨by kernel_rfl, rfl⟩) hHeld ?_
        try simp only [List.getElem_toArray, List.getElem_cons_zero, List.getElem_cons_succ, Act.put, List.setIfInBounds_toArray, List.set_cons_zero, List.set_cons_succ]
        refine wpAnyH_take (i := 22) (v := undef) rfl (by kernel_rfl) (by kernel_rfl) (by kernel_rfl) (fun _ _ _ h => h) (Or.inr ⟨by kernel_rfl, rfl⟩) hHeld ?_
        try simp only [List.getElem_toArray, List.getElem_cons_zero, List.getElem_cons_succ, Act.put, List.setIfInBounds_toArray, List.set_cons_zero, List.set_cons_succ]
        refine wpAnyH_take (i := 23) (v := undef) rfl (by kernel_rfl) (by kernel_rfl) (by kernel_rfl) (fun _ _ _ h => h) (Or.inr ⟨by kernel_rfl, rfl⟩) hHeld ?_
        try simp only [List.getElem_toArray, List.getElem_cons_zero, List.getElem_cons_succ, Act.put, List.setIfInBounds_toArray, List.set_cons_zero, List.set_cons_succ]
        refine wpAnyH_take (i := 24) (v := undef) rfl (by kernel_rfl) (by kernel_rfl) (by kernel_rfl) (fun _ _ _ h => h) (Or.inr ⟨by kernel_rfl, rfl⟩) hHeld ?_
        try simp only [List.getElem_toArray, List.getElem_cons_zero, List.getElem_cons_succ, Act.put, List.setIfInBounds_toArray, List.set_cons_zero, List.set_cons_succ]
        refine wpAnyH_take (i := 25) (v := undef) rfl (by kernel_rfl) (by kernel_rfl) (by kernel_rfl) (fun _ _ _ h => h) (Or.inr ⟨by kernel_rfl, rfl⟩) hHeld ?_
        try simp only [List.getElem_toArray, List.getElem_cons_zero, List.getElem_cons_succ, Act.put, List.setIfInBounds_toArray, List.set_cons_zero, List.set_cons_succ]
        refine wpAnyH_take (i := 26) (v := undef) rfl (by kernel_rfl) (by kernel_rfl) (by kernel_rfl) (fun _ _ _ h => h) (Or.inr ⟨by kernel_rfl, rfl⟩) hHeld ?_
        try simp only [List.getElem_toArray, List.getElem_cons_zero, List.getElem_cons_succ, Act.put, List.setIfInBounds_toArray, List.set_cons_zero, List.set_cons_succ]
        refine wpAnyH_take (i := 27) (v := undef) rfl (by kernel_rfl) (by kernel_rfl) (by kernel_rfl) (fun _ _ _ h => h) (Or.inr ⟨by kernel_rfl, rfl⟩) hHeld ?_
        try simp only [List.getElem_toArray, List.getElem_cons_zero, List.getElem_cons_succ, Act.put, List.setIfInBounds_toArray, List.set_cons_zero, List.set_cons_succ]
        refine wpAnyH_take (i := 28) (v := undef) rfl (by kernel_rfl) (by kernel_rfl) (by kernel_rfl) (fun _ _ _ h => h) (Or.inr ⟨by kernel_rfl, rfl⟩) hHeld ?_
        try simp only [List.getElem_toArray, List.getElem_cons_zero, List.getElem_cons_succ, Act.put, List.setIfInBounds_toArray, List.set_cons_zero, List.set_cons_succ]
        refine wpAnyH_take (i := 29) (v := (.bool false)) rfl (by kernel_rfl) (by kernel_rfl) (by kernel_rfl) (fun _ _ _ h => h) (Or.inl ⟨by rfl, by (intro w hSw; obtain ⟨s0, s1, s2, s3⟩ := hSw; go_simp)⟩) hHeld ?_
        try simp only [List.getElem_toArray, List.getElem_cons_zero, List.getElem_cons_succ, Act.put, List.setIfInBounds_toArray, List.set_cons_zero, List.set_cons_succ]
        refine wpAnyH_done (by kernel_rfl) ?_ _
        have HXX := Lib.hid (Ext.drew w7)
        go_wp2_with fail
        go_meet
        exact ⟨rfl, HXX⟩
      have h2b : (at_ == (q0 : Int) - 1) = true := by simp [h2]
      have hq1 : decide (at_ = (q0 : Int) - 1) = true := by simp [h2]
      have HBe : Hid ((eqB m (l.take q0) && eqB ((l.drop f).take (t - f)) (l.drop q0)) = b) := Lib.hid (by rw [← HBd.out, hq1]; simp [h1])
      clear HBack HBb HBd h2 hq1
      cases h3 : eqB m (l.take q0) with
      | false =>
        rw [h3] at HBe HQ1
        have hbf : b = false := by rw [← HBe.out]; rfl
        subst hbf
        clear h3 HBe hT2
        refine wp_region_held_drew (S := fun w' => w'.cell? ⟨w.heap.size, 0, none⟩ = some (.slice A n c) ∧ w'.cell? ⟨p, 0, none⟩ = some (.slice S0 q0 e0) ∧ w'.cell? ⟨p, 1, none⟩ = some (.int .i64 at_) ∧ w'.cell? ⟨p, 2, none⟩ = some (.slice X2 r2 d2)) (by kernel_rfl) ⟨x0, u0, u1, u2⟩ (fun hHeld => ?_)
        refine wpAnyH_take (i := 0) (v := (.int .i64 (q0 : Int))) rfl (by kernel_rfl) (by kernel_rfl) (by kernel_rfl) (fun _ _ _ h => h) (Or.inl ⟨by rfl, by (intro w hSw; obtain ⟨s0, s1, s2, s3⟩ := hSw; go_simp)⟩) hHeld ?_
        try simp only [List.getElem_toArray, List.getElem_cons_zero, List.getElem_cons_succ, Act.put, List.setIfInBounds_toArray, List.set_cons_zero, List.set_cons_succ]
        refine wpAnyH_take (i := 1) (v := (.bool true)) rfl (by kernel_rfl) (by kernel_rfl) (by kernel_rfl) (fun _ _ _ h => h) (Or.inl ⟨by rfl, by (intro w hSw; obtain ⟨s0, s1, s2, s3⟩ := hSw; go_simp)⟩) hHeld ?_
        try simp only [List.getElem_toArray, List.getElem_cons_zero, List.getElem_cons_succ, Act.put, List.setIfInBounds_toArray, List.set_cons_zero, List.set_cons_succ]
        refine wpAnyH_take (i := 2) (v := (.bool true)) rfl (by kernel_rfl) (by kernel_rfl) (by kernel_rfl) (fun _ _ _ h => h) (Or.inl ⟨by rfl, by (intro w hSw; obtain ⟨s0, s1, s2, s3⟩ := hSw; go_simp)⟩) hHeld ?_
        try simp only [List.getElem_toArray, List.getElem_cons_zero, List.getElem_cons_succ, Act.put, List.setIfInBounds_toArray, List.set_cons_zero, List.set_cons_succ]
        refine wpAnyH_take (i := 3) (v := (.pointer (some ⟨p, 0, none⟩))) rfl (by kernel_rfl) (by kernel_rfl) (by kernel_rfl) (fun _ _ _ h => h) (Or.inl ⟨by kernel_rfl, by (intro w hSw; obtain ⟨s0, s1, s2, s3⟩ := hSw; go_simp)⟩) hHeld ?_
        try simp only [List.getElem_toArray, List.getElem_cons_zero, List.getElem_cons_succ, Act.put, List.setIfInBounds_toArray, List.set_cons_zero, List.set_cons_succ]
        refine wpAnyH_take (i := 4) (v := (.pointer (some ⟨p, 1, none⟩))) rfl (by kernel_rfl) (by kernel_rfl) (by kernel_rfl) (fun _ _ _ h => h) (Or.inl ⟨by kernel_rfl, by (intro w hSw; obtain ⟨s0, s1, s2, s3⟩ := hSw; go_simp)⟩) hHeld ?_
        try simp only [List.getElem_toArray, List.getElem_cons_zero, List.getElem_cons_succ, Act.put, List.setIfInBounds_toArray, List.set_cons_zero, List.set_cons_succ]
        refine wpAnyH_take (i := 5) (v := (.int .i64 at_)) rfl (by kernel_rfl) (by kernel_rfl) (by kernel_rfl) (fun _ _ _ h => h) (Or.inl ⟨by kernel_rfl, by (intro w hSw; obtain ⟨s0, s1, s2, s3⟩ := hSw; go_simp)⟩) hHeld ?_
        try simp only [List.getElem_toArray, List.getElem_cons_zero, List.getElem_cons_succ, Act.put, List.setIfInBounds_toArray, List.set_cons_zero, List.set_cons_succ]
        refine wpAnyH_take (i := 6) (v := (.int .i64 (q0 : Int))) rfl (by kernel_rfl) (by kernel_rfl) (by kernel_rfl) (fun _ _ _ h => h) (Or.inl ⟨by kernel_rfl, by (intro w hSw; obtain ⟨s0, s1, s2, s3⟩ := hSw; go_simp)⟩) hHeld ?_
        try simp only [List.getElem_toArray, List.getElem_cons_zero, List.getElem_cons_succ, Act.put, List.setIfInBounds_toArray, List.set_cons_zero, List.set_cons_succ]
        refine wpAnyH_take (i := 7) (v := (.int .i64 ((q0 : Int) - 1))) rfl (by kernel_rfl) (by kernel_rfl) (by kernel_rfl) (fun _ _ _ h => h) (Or.inl ⟨by kernel_rfl, by (intro w hSw; obtain ⟨s0, s1, s2, s3⟩ := hSw; go_simp)⟩) hHeld ?_
        try simp only [List.getElem_toArray, List.getElem_cons_zero, List.getElem_cons_succ, Act.put, List.setIfInBounds_toArray, List.set_cons_zero, List.set_cons_succ]
        refine wpAnyH_take (i := 8) (v := (.bool true)) rfl (by kernel_rfl) (by kernel_rfl) (by kernel_rfl) (fun _ _ _ h => h) (Or.inl ⟨by kernel_rfl, by (intro w hSw; obtain ⟨s0, s1, s2, s3⟩ := hSw; go_simp)⟩) hHeld ?_
        try simp only [List.getElem_toArray, List.getElem_cons_zero, List.getElem_cons_succ, Act.put, List.setIfInBounds_toArray, List.set_cons_zero, List.set_cons_succ]
        refine wpAnyH_take (i := 9) (v := (.bool true)) rfl (by kernel_rfl) (by kernel_rfl) (by kernel_rfl) (fun _ _ _ h => h) (Or.inl ⟨by rfl, by (intro w hSw; obtain ⟨s0, s1, s2, s3⟩ := hSw; go_simp)⟩) hHeld ?_
        try simp only [List.getElem_toArray, List.getElem_cons_zero, List.getElem_cons_succ, Act.put, List.setIfInBounds_toArray, List.set_cons_zero, List.set_cons_succ]
        refine wpAnyH_take (i := 10) (v := (.bool true)) rfl (by kernel_rfl) (by kernel_rfl) (by kernel_rfl) (fun _ _ _ h => h) (Or.inl ⟨by rfl, by (intro w hSw; obtain ⟨s0, s1, s2, s3⟩ := hSw; go_simp)⟩) hHeld ?_
        try simp only [List.getElem_toArray, List.getElem_cons_zero, List.getElem_cons_succ, Act.put, List.setIfInBounds_toArray, List.set_cons_zero, List.set_cons_succ]
        refine wpAnyH_take (i := 11) (v := (.pointer (some ⟨p, 0, none⟩))) rfl (by kernel_rfl) (by kernel_rfl) (by kernel_rfl) (fun _ _ _ h => h) (Or.inl ⟨by kernel_rfl, by (intro w hSw; obtain ⟨s0, s1, s2, s3⟩ := hSw; go_simp)⟩) hHeld ?_
        try simp only [List.getElem_toArray, List.getElem_cons_zero, List.getElem_cons_succ, Act.put, List.setIfInBounds_toArray, List.set_cons_zero, List.set_cons_succ]
        refine wpAnyH_take (i := 12) (v := (.pointer (some ⟨p, 0, none⟩))) rfl (by kernel_rfl) (by kernel_rfl) (by kernel_rfl) (fun _ _ _ h => h) (Or.inl ⟨by kernel_rfl, by (intro w hSw; obtain ⟨s0, s1, s2, s3⟩ := hSw; go_simp)⟩) hHeld ?_
        try simp only [List.getElem_toArray, List.getElem_cons_zero, List.getElem_cons_succ, Act.put, List.setIfInBounds_toArray, List.set_cons_zero, List.set_cons_succ]
        refine wpAnyH_take (i := 13) (v := (.slice S0 q0 e0)) rfl (by kernel_rfl) (by kernel_rfl) (by kernel_rfl) (fun _ _ _ h => h) (Or.inl ⟨by kernel_rfl, by (intro w hSw; obtain ⟨s0, s1, s2, s3⟩ := hSw; go_simp)⟩) hHeld ?_
        try simp only [List.getElem_toArray, List.getElem_cons_zero, List.getElem_cons_succ, Act.put, List.setIfInBounds_toArray, List.set_cons_zero, List.set_cons_succ]
        refine wpAnyH_take (i := 14) (v := (.pointer (some ⟨w.heap.size, 0, none⟩))) rfl (by kernel_rfl) (by kernel_rfl) (by kernel_rfl) (fun _ _ _ h => h) (Or.inl ⟨by kernel_rfl, by (intro w hSw; obtain ⟨s0, s1, s2, s3⟩ := hSw; go_simp)⟩) hHeld ?_
        try simp only [List.getElem_toArray, List.getElem_cons_zero, List.getElem_cons_succ, Act.put, List.setIfInBounds_toArray, List.set_cons_zero, List.set_cons_succ]
        refine wpAnyH_take (i := 15) (v := (.slice A n c)) rfl (by kernel_rfl) (by kernel_rfl) (by kernel_rfl) (fun _ _ _ h => h) (Or.inl ⟨by kernel_rfl, by (intro w hSw; obtain ⟨s0, s1, s2, s3⟩ := hSw; go_simp)⟩) hHeld ?_
        try simp only [List.getElem_toArray, List.getElem_cons_zero, List.getElem_cons_succ, Act.put, List.setIfInBounds_toArray, List.set_cons_zero, List.set_cons_succ]
        refine wpAnyH_take (i := 16) (v := (.int .i64 (q0 : Int))) rfl (by kernel_rfl) (by kernel_rfl) (by kernel_rfl) (fun _ _ _ h => h) (Or.inl ⟨by kernel_rfl, by (intro w hSw; obtain ⟨s0, s1, s2, s3⟩ := hSw; go_simp)⟩) hHeld ?_
        try simp only [List.getElem_toArray, List.getElem_cons_zero, List.getElem_cons_succ, Act.put, List.setIfInBounds_toArray, List.set_cons_zero, List.set_cons_succ]
        refine wpAnyH_take (i := 17) (v := (.slice A q0 c)) rfl (by kernel_rfl) (by kernel_rfl) (by kernel_rfl) (fun _ _ _ h => h) (Or.inl ⟨by kernel_rfl, by (intro w hSw; obtain ⟨s0, s1, s2, s3⟩ := hSw; go_simp)⟩) hHeld ?_
        try simp only [List.getElem_toArray, List.getElem_cons_zero, List.getElem_cons_succ, Act.put, List.setIfInBounds_toArray, List.set_cons_zero, List.set_cons_succ]
        refine wpAnyH_ready (rs := [18]) (by kernel_rfl) (by simp) ?_
        refine AllReadyH.cons rfl (fun K hK => ?_) AllReadyH.nil
        refine step_callw (by kernel_rfl) 10 #[.slice S0 q0 e0, .slice A q0 c] rfl (by kernel_rfl) (fun v w' => v = .bool false ∧ Ext w7.drew w') ((HQ1.out _ (Ext.drew w7)).mono fun e w' ⟨h1, h2⟩ => ⟨_, h1, rfl, h2⟩) ?_
        rintro v w8 ⟨rfl, hx8⟩
        refine hK.out _ _ ⟨hx8.cell x0, hx8.cell u0, hx8.cell u1, hx8.cell u2⟩ (fun hHeld2 => ?_)
        clear hK K hHeld
        try simp only [List.getElem_toArray, List.getElem_cons_zero, List.getElem_cons_succ, Act.put, List.setIfInBounds_toArray, List.set_cons_zero, List.set_cons_succ]
        refine wpAnyH_take (i := 19) (v := (.bool false)) rfl (by kernel_rfl) (by kernel_rfl) (by kernel_rfl) (fun _ _ _ h => h) (Or.inl ⟨by rfl, by (intro w hSw; obtain ⟨s0, s1, s2, s3⟩ := hSw; go_simp)⟩) hHeld2 ?_
        try simp only [List.getElem_toArray, List.getElem_cons_zero, List.getElem_cons_succ, Act.put, List.setIfInBounds_toArray, List.set_cons_zero, List.set_cons_succ]
        refine wpAnyH_take (i := 20) (v := (.bool false)) rfl (by kernel_rfl) (by kernel_rfl) (by kernel_rfl) (fun _ _ _ h => h) (Or.inl ⟨by rfl, by (intro w hSw; obtain ⟨s0, s1, s2, s3⟩ := hSw; go_simp)⟩) hHeld2 ?_
        try simp only [List.getElem_toArray, List.getElem_cons_zero, List.getElem_cons_succ, Act.put, List.setIfInBounds_toArray, List.set_cons_zero, List.set_cons_succ]
        refine wpAnyH_take (i := 21) (v := undef) rfl (by kernel_rfl) (by kernel_rfl) (by kernel_rfl) (fun _ _ _ h => h) (Or.inr ⟨by kernel_rfl, rfl⟩) hHeld2 ?_
        try simp only [List.getElem_toArray, List.getElem_cons_zero, List.getElem_cons_succ, Act.put, List.setIfInBounds_toArray, List.set_cons_zero, List.set_cons_succ]
        refine wpAnyH_take (i := 22) (v := undef) rfl (by kernel_rfl) (by kernel_rfl) (by kernel_rfl) (fun _ _ _ h => h) (Or.inr ⟨by kernel_rfl, rfl⟩) hHeld2 ?_
        try simp only [List.getElem_toArray, List.getElem_cons_zero, List.getElem_cons_succ, Act.put, List.setIfInBounds_toArray, List.set_cons_zero, List.set_cons_succ]
        refine wpAnyH_take (i := 23) (v := undef) rfl (by kernel_rfl) (by kernel_rfl) (by kernel_rfl) (fun _ _ _ h => h) (Or.inr ⟨by kernel_rfl, rfl⟩) hHeld2 ?_
        try simp only [List.getElem_toArray, List.getElem_cons_zero, List.getElem_cons_succ, Act.put, List.setIfInBounds_toArray, List.set_cons_zero, List.set_cons_succ]
        refine wpAnyH_take (i := 24) (v := undef) rfl (by kernel_rfl) (by kernel_rfl) (by kernel_rfl) (fun _ _ _ h => h) (Or.inr ⟨by kernel_rfl, rfl⟩) hHeld2 ?_
        try simp only [List.getElem_toArray, List.getElem_cons_zero, List.getElem_cons_succ, Act.put, List.setIfInBounds_toArray, List.set_cons_zero, List.set_cons_succ]
        refine wpAnyH_take (i := 25) (v := undef) rfl (by kernel_rfl) (by kernel_rfl) (by kernel_rfl) (fun _ _ _ h => h) (Or.inr ⟨by kernel_rfl, rfl⟩) hHeld2 ?_
        try simp only [List.getElem_toArray, List.getElem_cons_zero, List.getElem_cons_succ, Act.put, List.setIfInBounds_toArray, List.set_cons_zero, List.set_cons_succ]
        refine wpAnyH_take (i := 26) (v := undef) rfl (by kernel_rfl) (by kernel_rfl) (by kernel_rfl) (fun _ _ _ h => h) (Or.inr ⟨by kernel_rfl, rfl⟩) hHeld2 ?_
        try simp only [List.getElem_toArray, List.getElem_cons_zero, List.getElem_cons_succ, Act.put, List.setIfInBounds_toArray, List.set_cons_zero, List.set_cons_succ]
        refine wpAnyH_take (i := 27) (v := undef) rfl (by kernel_rfl) (by kernel_rfl) (by kernel_rfl) (fun _ _ _ h => h) (Or.inr ⟨by kernel_rfl, rfl⟩) hHeld2 ?_
        try simp only [List.getElem_toArray, List.getElem_cons_zero, List.getElem_cons_succ, Act.put, List.setIfInBounds_toArray, List.set_cons_zero, List.set_cons_succ]
        refine wpAnyH_take (i := 28) (v := undef) rfl (by kernel_rfl) (by kernel_rfl) (by kernel_rfl) (fun _ _ _ h => h) (Or.inr ⟨by kernel_rfl, rfl⟩) hHeld2 ?_
        try simp only [List.getElem_toArray, List.getElem_cons_zero, List.getElem_cons_succ, Act.put, List.setIfInBounds_toArray, List.set_cons_zero, List.set_cons_succ]
        refine wpAnyH_take (i := 29) (v := (.bool false)) rfl (by kernel_rfl) (by kernel_rfl) (by kernel_rfl) (fun _ _ _ h => h) (Or.inl ⟨by rfl, by (intro w hSw; obtain ⟨s0, s1, s2, s3⟩ := hSw; go_simp)⟩) hHeld2 ?_
        try simp only [List.getElem_toArray, List.getElem_cons_zero, List.getElem_cons_succ, Act.put, List.setIfInBounds_toArray, List.set_cons_zero, List.set_cons_succ]
        refine wpAnyH_done (by kernel_rfl) ?_ _
        have HXX := Lib.hid ((Ext.drew w7).trans hx8)
        go_wp2_with fail
        go_meet
        exact ⟨rfl, HXX⟩
      | true =>
        rw [h3] at HBe HQ1
        obtain ⟨b2, hb2⟩ : ∃ b2, eqB ((l.drop f).take (t - f)) (l.drop q0) = b2 := ⟨_, rfl⟩
        rw [hb2] at HBe HQ2
        have hbf : b2 = b := by rw [← HBe.out]; rfl
        subst hbf
        clear h3 HBe hb2
        refine wp_region_held_drew (S := fun w' => w'.cell? ⟨w.heap.size, 0, none⟩ = some (.slice A n c) ∧ w'.cell? ⟨p, 0, none⟩ = some (.slice S0 q0 e0) ∧ w'.cell? ⟨p, 1, none⟩ = some (.int .i64 at_) ∧ w'.cell? ⟨p, 2, none⟩ = some (.slice X2 r2 d2)) (by kernel_rfl) ⟨x0, u0, u1, u2⟩ (fun hHeld => ?_)
        refine wpAnyH_take (i := 0) (v := (.int .i64 (q0 : Int))) rfl (by kernel_rfl) (by kernel_rfl) (by kernel_rfl) (fun _ _ _ h => h) (Or.inl ⟨by rfl, by (intro w hSw; obtain ⟨s0, s1, s2, s3⟩ := hSw; go_simp)⟩) hHeld ?_
        try simp only [List.getElem_toArray, List.getElem_cons_zero, List.getElem_cons_succ, Act.put, List.setIfInBounds_toArray, List.set_cons_zero, List.set_cons_succ]
        refine wpAnyH_take (i := 1) (v := (.bool true)) rfl (by kernel_rfl) (by kernel_rfl) (by kernel_rfl) (fun _ _ _ h => h) (Or.inl ⟨by rfl, by (intro w hSw; obtain ⟨s0, s1, s2, s3⟩ := hSw; go_simp)⟩) hHeld ?_
        try simp only [List.getElem_toArray, List.getElem_cons_zero, List.getElem_cons_succ, Act.put, List.setIfInBounds_toArray, List.set_cons_zero, List.set_cons_succ]
        refine wpAnyH_take (i := 2) (v := (.bool true)) rfl (by kernel_rfl) (by kernel_rfl) (by kernel_rfl) (fun _ _ _ h => h) (Or.inl ⟨by rfl, by (intro w hSw; obtain ⟨s0, s1, s2, s3⟩ := hSw; go_simp)⟩) hHeld ?_
        try simp only [List.getElem_toArray, List.getElem_cons_zero, List.getElem_cons_succ, Act.put, List.setIfInBounds_toArray, List.set_cons_zero, List.set_cons_succ]
        refine wpAnyH_take (i := 3) (v := (.pointer (some ⟨p, 0, none⟩))) rfl (by kernel_rfl) (by kernel_rfl) (by kernel_rfl) (fun _ _ _ h => h) (Or.inl ⟨by kernel_rfl, by (intro w hSw; obtain ⟨s0, s1, s2, s3⟩ := hSw; go_simp)⟩) hHeld ?_
        try simp only [List.getElem_toArray, List.getElem_cons_zero, List.getElem_cons_succ, Act.put, List.setIfInBounds_toArray, List.set_cons_zero, List.set_cons_succ]
        refine wpAnyH_take (i := 4) (v := (.pointer (some ⟨p, 1, none⟩))) rfl (by kernel_rfl) (by kernel_rfl) (by kernel_rfl) (fun _ _ _ h => h) (Or.inl ⟨by kernel_rfl, by (intro w hSw; obtain ⟨s0, s1, s2, s3⟩ := hSw; go_simp)⟩) hHeld ?_
        try simp only [List.getElem_toArray, List.getElem_cons_zero, List.getElem_cons_succ, Act.put, List.setIfInBounds_toArray, List.set_cons_zero, List.set_cons_succ]
        refine wpAnyH_take (i := 5) (v := (.int .i64 at_)) rfl (by kernel_rfl) (by kernel_rfl) (by kernel_rfl) (fun _ _ _ h => h) (Or.inl ⟨by kernel_rfl, by (intro w hSw; obtain ⟨s0, s1, s2, s3⟩ := hSw; go_simp)⟩) hHeld ?_
        try simp only [List.getElem_toArray, List.getElem_cons_zero, List.getElem_cons_succ, Act.put, List.setIfInBounds_toArray, List.set_cons_zero, List.set_cons_succ]
        refine wpAnyH_take (i := 6) (v := (.int .i64 (q0 : Int))) rfl (by kernel_rfl) (by kernel_rfl) (by kernel_rfl) (fun _ _ _ h => h) (Or.inl ⟨by kernel_rfl, by (intro w hSw; obtain ⟨s0, s1, s2, s3⟩ := hSw; go_simp)⟩) hHeld ?_
        try simp only [List.getElem_toArray, List.getElem_cons_zero, List.getElem_cons_succ, Act.put, List.setIfInBounds_toArray, List.set_cons_zero, List.set_cons_succ]
        refine wpAnyH_take (i := 7) (v := (.int .i64 ((q0 : Int) - 1))) rfl (by kernel_rfl) (by kernel_rfl) (by kernel_rfl) (fun _ _ _ h => h) (Or.inl ⟨by kernel_rfl, by (intro w hSw; obtain ⟨s0, s1, s2, s3⟩ := hSw; go_simp)⟩) hHeld ?_
        try simp only [List.getElem_toArray, List.getElem_cons_zero, List.getElem_cons_succ, Act.put, List.setIfInBounds_toArray, List.set_cons_zero, List.set_cons_succ]
        refine wpAnyH_take (i := 8) (v := (.bool true)) rfl (by kernel_rfl) (by kernel_rfl) (by kernel_rfl) (fun _ _ _ h => h) (Or.inl ⟨by kernel_rfl, by (intro w hSw; obtain ⟨s0, s1, s2, s3⟩ := hSw; go_simp)⟩) hHeld ?_
        try simp only [List.getElem_toArray, List.getElem_cons_zero, List.getElem_cons_succ, Act.put, List.setIfInBounds_toArray, List.set_cons_zero, List.set_cons_succ]
        refine wpAnyH_take (i := 9) (v := (.bool true)) rfl (by kernel_rfl) (by kernel_rfl) (by kernel_rfl) (fun _ _ _ h => h) (Or.inl ⟨by rfl, by (intro w hSw; obtain ⟨s0, s1, s2, s3⟩ := hSw; go_simp)⟩) hHeld ?_
        try simp only [List.getElem_toArray, List.getElem_cons_zero, List.getElem_cons_succ, Act.put, List.setIfInBounds_toArray, List.set_cons_zero, List.set_cons_succ]
        refine wpAnyH_take (i := 10) (v := (.bool true)) rfl (by kernel_rfl) (by kernel_rfl) (by kernel_rfl) (fun _ _ _ h => h) (Or.inl ⟨by rfl, by (intro w hSw; obtain ⟨s0, s1, s2, s3⟩ := hSw; go_simp)⟩) hHeld ?_
        try simp only [List.getElem_toArray, List.getElem_cons_zero, List.getElem_cons_succ, Act.put, List.setIfInBounds_toArray, List.set_cons_zero, List.set_cons_succ]
        refine wpAnyH_take (i := 11) (v := (.pointer (some ⟨p, 0, none⟩))) rfl (by kernel_rfl) (by kernel_rfl) (by kernel_rfl) (fun _ _ _ h => h) (Or.inl ⟨by kernel_rfl, by (intro w hSw; obtain ⟨s0, s1, s2, s3⟩ := hSw; go_simp)⟩) hHeld ?_
        try simp only [List.getElem_toArray, List.getElem_cons_zero, List.getElem_cons_succ, Act.put, List.setIfInBounds_toArray, List.set_cons_zero, List.set_cons_succ]
        refine wpAnyH_take (i := 12) (v := (.pointer (some ⟨p, 0, none⟩))) rfl (by kernel_rfl) (by kernel_rfl) (by kernel_rfl) (fun _ _ _ h => h) (Or.inl ⟨by kernel_rfl, by (intro w hSw; obtain ⟨s0, s1, s2, s3⟩ := hSw; go_simp)⟩) hHeld ?_
        try simp only [List.getElem_toArray, List.getElem_cons_zero, List.getElem_cons_succ, Act.put, List.setIfInBounds_toArray, List.set_cons_zero, List.set_cons_succ]
        refine wpAnyH_take (i := 13) (v := (.slice S0 q0 e0)) rfl (by kernel_rfl) (by kernel_rfl) (by kernel_rfl) (fun _ _ _ h => h) (Or.inl ⟨by kernel_rfl, by (intro w hSw; obtain ⟨s0, s1, s2, s3⟩ := hSw; go_simp)⟩) hHeld ?_
        try simp only [List.getElem_toArray, List.getElem_cons_zero, List.getElem_cons_succ, Act.put, List.setIfInBounds_toArray, List.set_cons_zero, List.set_cons_succ]
        refine wpAnyH_take (i := 14) (v := (.pointer (some ⟨w.heap.size, 0, none⟩))) rfl (by kernel_rfl) (by kernel_rfl) (by kernel_rfl) (fun _ _ _ h => h) (Or.inl ⟨by kernel_rfl, by (intro w hSw; obtain ⟨s0, s1, s2, s3⟩ := hSw; go_simp)⟩) hHeld ?_
        try simp only [List.getElem_toArray, List.getElem_cons_zero, List.getElem_cons_succ, Act.put, List.setIfInBounds_toArray, List.set_cons_zero, List.set_cons_succ]
        refine wpAnyH_take (i := 15) (v := (.slice A n c)) rfl (by kernel_rfl) (by kernel_rfl) (by kernel_rfl) (fun _ _ _ h => h) (Or.inl ⟨by kernel_rfl, by (intro w hSw; obtain ⟨s0, s1, s2, s3⟩ := hSw; go_simp)⟩) hHeld ?_
        try simp only [List.getElem_toArray, List.getElem_cons_zero, List.getElem_cons_succ, Act.put, List.setIfInBounds_toArray, List.set_cons_zero, List.set_cons_succ]
        refine wpAnyH_take (i := 16) (v := (.int .i64 (q0 : Int))) rfl (by kernel_rfl) (by kernel_rfl) (by kernel_rfl) (fun _ _ _ h => h) (Or.inl ⟨by kernel_rfl, by (intro w hSw; obtain ⟨s0, s1, s2, s3⟩ := hSw; go_simp)⟩) hHeld ?_
        try simp only [List.getElem_toArray, List.getElem_cons_zero, List.getElem_cons_succ, Act.put, List.setIfInBounds_toArray, List.set_cons_zero, List.set_cons_succ]
        refine wpAnyH_take (i := 17) (v := (.slice A q0 c)) rfl (by kernel_rfl) (by kernel_rfl) (by kernel_rfl) (fun _ _ _ h => h) (Or.inl ⟨by kernel_rfl, by (intro w hSw; obtain ⟨s0, s1, s2, s3⟩ := hSw; go_simp)⟩) hHeld ?_
        try simp only [List.getElem_toArray, List.getElem_cons_zero, List.getElem_cons_succ, Act.put, List.setIfInBounds_toArray, List.set_cons_zero, List.set_cons_succ]
        refine wpAnyH_ready (rs := [18]) (by kernel_rfl) (by simp) ?_
        refine AllReadyH.cons rfl (fun K hK => ?_) AllReadyH.nil
        refine step_callw (by kernel_rfl) 10 #[.slice S0 q0 e0, .slice A q0 c] rfl (by kernel_rfl) (fun v w' => v = .bool true ∧ Ext w7.drew w') ((HQ1.out _ (Ext.drew w7)).mono fun e w' ⟨h1, h2⟩ => ⟨_, h1, rfl, h2⟩) ?_
        rintro v w8 ⟨rfl, hx8⟩
        refine hK.out _ _ ⟨hx8.cell x0, hx8.cell u0, hx8.cell u1, hx8.cell u2⟩ (fun hHeld2 => ?_)
        clear hK K hHeld
        try simp only [List.getElem_toArray, List.getElem_cons_zero, List.getElem_cons_succ, Act.put, List.setIfInBounds_toArray, List.set_cons_zero, List.set_cons_succ]
        refine wpAnyH_take (i := 19) (v := (.bool true)) rfl (by kernel_rfl) (by kernel_rfl) (by kernel_rfl) (fun _ _ _ h => h) (Or.inl ⟨by rfl, by (intro w hSw; obtain ⟨s0, s1, s2, s3⟩ := hSw; go_simp)⟩) hHeld2 ?_
        try simp only [List.getElem_toArray, List.getElem_cons_zero, List.getElem_cons_succ, Act.put, List.setIfInBounds_toArray, List.set_cons_zero, List.set_cons_succ]
        refine wpAnyH_take (i := 20) (v := (.bool true)) rfl (by kernel_rfl) (by kernel_rfl) (by kernel_rfl) (fun _ _ _ h => h) (Or.inl ⟨by rfl, by (intro w hSw; obtain ⟨s0, s1, s2, s3⟩ := hSw; go_simp)⟩) hHeld2 ?_
        try simp only [List.getElem_toArray, List.getElem_cons_zero, List.getElem_cons_succ, Act.put, List.setIfInBounds_toArray, List.set_cons_zero, List.set_cons_succ]
        refine wpAnyH_take (i := 21) (v := (.pointer (some ⟨p, 2, none⟩))) rfl (by kernel_rfl) (by kernel_rfl) (by kernel_rfl) (fun _ _ _ h => h) (Or.inl ⟨by kernel_rfl, by (intro w hSw; obtain ⟨s0, s1, s2, s3⟩ := hSw; go_simp)⟩) hHeld2 ?_
        try simp only [List.getElem_toArray, List.getElem_cons_zero, List.getElem_cons_succ, Act.put, List.setIfInBounds_toArray, List.set_cons_zero, List.set_cons_succ]
        refine wpAnyH_take (i := 22) (v := (.pointer (some ⟨p, 2, none⟩))) rfl (by kernel_rfl) (by kernel_rfl) (by kernel_rfl) (fun _ _ _ h => h) (Or.inl ⟨by kernel_rfl, by (intro w hSw; obtain ⟨s0, s1, s2, s3⟩ := hSw; go_simp)⟩) hHeld2 ?_
        try simp only [List.getElem_toArray, List.getElem_cons_zero, List.getElem_cons_succ, Act.put, List.setIfInBounds_toArray, List.set_cons_zero, List.set_cons_succ]
        refine wpAnyH_take (i := 23) (v := (.slice X2 r2 d2)) rfl (by kernel_rfl) (by kernel_rfl) (by kernel_rfl) (fun _ _ _ h => h) (Or.inl ⟨by kernel_rfl, by (intro w hSw; obtain ⟨s0, s1, s2, s3⟩ := hSw; go_simp)⟩) hHeld2 ?_
        try simp only [List.getElem_toArray, List.getElem_cons_zero, List.getElem_cons_succ, Act.put, List.setIfInBounds_toArray, List.set_cons_zero, List.set_cons_succ]
        refine wpAnyH_take (i := 24) (v := (.pointer (some ⟨w.heap.size, 0, none⟩))) rfl (by kernel_rfl) (by kernel_rfl) (by kernel_rfl) (fun _ _ _ h => h) (Or.inl ⟨by kernel_rfl, by (intro w hSw; obtain ⟨s0, s1, s2, s3⟩ := hSw; go_simp)⟩) hHeld2 ?_
        try simp only [List.getElem_toArray, List.getElem_cons_zero, List.getElem_cons_succ, Act.put, List.setIfInBounds_toArray, List.set_cons_zero, List.set_cons_succ]
        refine wpAnyH_take (i := 25) (v := (.slice A n c)) rfl (by kernel_rfl) (by kernel_rfl) (by kernel_rfl) (fun _ _ _ h => h) (Or.inl ⟨by kernel_rfl, by (intro w hSw; obtain ⟨s0, s1, s2, s3⟩ := hSw; go_simp)⟩) hHeld2 ?_
        try simp only [List.getElem_toArray, List.getElem_cons_zero, List.getElem_cons_succ, Act.put, List.setIfInBounds_toArray, List.set_cons_zero, List.set_cons_succ]
        refine wpAnyH_take (i := 26) (v := (.int .i64 (q0 : Int))) rfl (by kernel_rfl) (by kernel_rfl) (by kernel_rfl) (fun _ _ _ h => h) (Or.inl ⟨by kernel_rfl, by (intro w hSw; obtain ⟨s0, s1, s2, s3⟩ := hSw; go_simp)⟩) hHeld2 ?_
        try simp only [List.getElem_toArray, List.getElem_cons_zero, List.getElem_cons_succ, Act.put, List.setIfInBounds_toArray, List.set_cons_zero, List.set_cons_succ]
        refine wpAnyH_take (i := 27) (v := (.slice T2 (n - q0) (c - q0))) rfl (by kernel_rfl) (by kernel_rfl) (by kernel_rfl) (fun _ _ _ h => h) (Or.inl ⟨by kernel_rfl, by (intro w hSw; obtain ⟨s0, s1, s2, s3⟩ := hSw; go_simp)⟩) hHeld2 ?_
        try simp only [List.getElem_toArray, List.getElem_cons_zero, List.getElem_cons_succ, Act.put, List.setIfInBounds_toArray, List.set_cons_zero, List.set_cons_succ]
        refine wpAnyH_ready (rs := [28]) (by kernel_rfl) (by simp) ?_
        refine AllReadyH.cons rfl (fun K hK => ?_) AllReadyH.nil
        refine step_callw (by kernel_rfl) 10 #[.slice X2 r2 d2, .slice T2 (n - q0) (c - q0)] rfl (by kernel_rfl) (fun v w' => v = .bool b2 ∧ Ext w8 w') ((HQ2.out _ ((Ext.drew w7).trans hx8)).mono fun e w' ⟨h1, h2⟩ => ⟨_, h1, rfl, h2⟩) ?_
        rintro v w9 ⟨rfl, hx9⟩
        refine hK.out _ _ ⟨(hx8.trans hx9).cell x0, (hx8.trans hx9).cell u0, (hx8.trans hx9).cell u1, (hx8.trans hx9).cell u2⟩ (fun hHeld3 => ?_)
        clear hK K hHeld2
        try simp only [List.getElem_toArray, List.getElem_cons_zero, List.getElem_cons_succ, Act.put, List.setIfInBounds_toArray, List.set_cons_zero, List.set_cons_succ]
        refine wpAnyH_take (i := 29) (v := (.bool b2)) rfl (by kernel_rfl) (by kernel_rfl) (by kernel_rfl) (fun _ _ _ h => h) (Or.inl ⟨by rfl, by (intro w hSw; obtain ⟨s0, s1, s2, s3⟩ := hSw; go_simp)⟩) hHeld3 ?_
        try simp only [List.getElem_toArray, List.getElem_cons_zero, List.getElem_cons_succ, Act.put, List.setIfInBounds_toArray, List.set_cons_zero, List.set_cons_succ]
        refine wpAnyH_done (by kernel_rfl) ?_ _
        have HXX := Lib.hid (((Ext.drew w7).trans hx8).trans hx9)
        go_wp2_with fail
        go_meet
        exact ⟨rfl, HXX⟩
    case rest =>
      obtain ⟨rfl, HXc⟩ := hcut
      have HX8 := Lib.hid (HX7.out.trans HXc.out)
      have L3 := Lib.hid (Blk.ext K3.out HXc.out)
      have L4 := Lib.hid (Blk.ext K4.out HXc.out)
      have HBc := Lib.hid (Blk.ext HB.out HXc.out)
      have HMw : Hid (∀ x ∈ m, (Lit.int .i64 x).wf = true) := Lib.hid (fun x hx => by
        rw [HM.out] at hx
        rcases List.mem_append.1 hx with h | h
        · exact HWl.out x (List.mem_of_mem_take h)
        · exact HWl.out x (List.mem_of_mem_drop h))
      have HTl : Hid (1 ≤ ((l.drop f).take (t - f)).length ∧ ((l.drop f).take (t - f)).length + q0 ≤ 200) := Lib.hid (by
        have h1 := took_len hln.out (Nat.le_of_lt HFT.out.1) HFT.out.2
        have h2 := HQ0.out
        have h3 := HFT.out
        have h4 := HN.out
        omega)
      have HP := Lib.hid (do_put (a := at_) (fk := fk) (fa := fa) (v := if b = true then 112 else 80) (HI0.out.ext HXc.out) HMw.out HNc.out (HR7.out.ext HXc.out) hqn HAt0.out.1 HAt0.out.2 HVd.out.2.2.1 (by cases b <;> simp) HTo.out HTl.out.1 HTl.out.2)
      have HBk := HBack.out
      rw [HI0.out.len] at HBk
      rw [HBk] at HP
      have HLe := Lib.hid (HL7.out.ext HXc.out)
      clear HBk HBack HBb HBd x0 x1 u0 u1 u2 hT2 HQ1 HQ2 HMw HTl
      obtain ⟨x0, x1⟩ := cells2L L3.out
      obtain ⟨z0, z1⟩ := cells2L L4.out
      have u0 : wc.cell? ⟨p, 0, none⟩ = some (.slice S0 q0 e0) := (HBc.out.cell 0).trans HC.out.1
      have u1 : wc.cell? ⟨p, 1, none⟩ = some (.int .i64 at_) := (HBc.out.cell 1).trans HC.out.2.1
      cases b
      all_goals
        go_wp2_with (refine wpList_load_at rfl 30 (.tmp 110) rfl p 2 rfl 33 vs RG (0, 0) _ HBc.out HQC.out Try.underlying30 rfl HQS.out ?_)
        refine HP.out.mono ?_
        rintro e w8 ⟨hx8, vs4, m4, at4, md4, zk4, za4, rl4, ed4, rfl, hres4, rfl⟩
        obtain ⟨S4, q4, e4, hv4, ho4⟩ := hres4.text
        have HS4 := Lib.hid hres4.size
        have HOn4 := Lib.hid hres4.one
        have HV4 := Lib.hid hv4
        have HO4 := Lib.hid ho4.ints
        have HX9 := Lib.hid (HX8.out.trans hx8)
        have M3 := Lib.hid (L3.out.ext hx8)
        have HL9 := Lib.hid (HLe.out.ext hx8)
        clear hx8 hres4 hv4 ho4 x0 x1 z0 z1 u0 u1 HP
        go_upto_region 15 with (refine wpList_store_row rfl 33 (.tmp 14) (.tmp 117) rfl w8.heap.size vs4 rfl rfl 33 resZ (Blk.new w8 _ resZ) (res_size HS4.out) (by rw [HS4.out]; rfl) HOn4.out ?_)
        change Code.wp _ _ _ _ ((w8.alloc (.cells resZ 33)).setRow w8.heap.size vs4)
        obtain ⟨hx9, hb9⟩ := laid_res w8 vs4
        generalize (w8.alloc (.cells resZ 33)).setRow w8.heap.size vs4 = w9 at *
        have HX10 := Lib.hid (HX9.out.trans hx9)
        have c14 : w9.cell? ⟨w8.heap.size, 0, none⟩ = some (.slice S4 q4 e4) := (hb9.cell 0).trans HV4.out
        obtain ⟨x0, x1⟩ := cells2L (M3.out.ext hx9)
        have HEq := Lib.hid (equal_ext (HO4.out.ext hx9) (HL9.out.ext hx9))
        rw [eqB_true.2 rfl] at HEq
        clear hx9 hb9
        go_wp2_with fail
        refine HEq.out.mono ?_
        rintro e w10 ⟨rfl, hx10⟩
        have HX11 := Lib.hid (HX10.out.trans hx10)
        clear HEq hx10 x0 x1 c14
        go_wp2_with fail
        go_ret
        exact ⟨rfl, HX11.out⟩
end Go.Proofs.Ytmhgndjmcignjaa
