/-
  The walk of the statement that what an operator takes can be put back.
-/
import Derived.Test.YtmhgndjmcignjaaZDoQ
import Derived.Test.YtmhgndjmcignjaaZJ1

namespace Go.Proofs.Ytmhgndjmcignjaa
open Go.RowKit
set_option linter.unusedVariables false
set_option linter.unusedSimpArgs false

theorem take_start (w : World) (A : Option Addr) (n c : Nat) (a fk fa k1 k2 k3 k4 k5 : Int) : ∃ w0, w0 = (((w.alloc (.cells #[.slice A n c, .int .i64 a] 24)).alloc (.cells #[.int .i64 fk, .int .i64 fa] 26)).alloc (.cells #[.int .i64 k1, .int .i64 k2, .int .i64 k3, .int .i64 k4, .int .i64 k5] 28)) ∧ Ext w w0 ∧
    Blk w0 w.heap.size 24 #[.slice A n c, .int .i64 a] ∧ Blk w0 (w.heap.size + 1) 26 #[.int .i64 fk, .int .i64 fa] ∧ Blk w0 (w.heap.size + 1 + 1) 28 #[.int .i64 k1, .int .i64 k2, .int .i64 k3, .int .i64 k4, .int .i64 k5] := by
  have h1 := Blk.new w 24 #[.slice A n c, .int .i64 a]
  have x1 := Ext.alloc w (.cells #[.slice A n c, .int .i64 a] 24)
  have z1 : (w.alloc (.cells #[.slice A n c, .int .i64 a] 24)).heap.size = w.heap.size + 1 := by simp
  generalize w.alloc (.cells #[.slice A n c, .int .i64 a] 24) = W1 at *
  have h2 := Blk.new W1 26 #[.int .i64 fk, .int .i64 fa]
  have x2 := Ext.alloc W1 (.cells #[.int .i64 fk, .int .i64 fa] 26)
  have z2 : (W1.alloc (.cells #[.int .i64 fk, .int .i64 fa] 26)).heap.size = w.heap.size + 1 + 1 := by simp [z1]
  rw [z1] at h2
  generalize W1.alloc (.cells #[.int .i64 fk, .int .i64 fa] 26) = W2 at *
  have h3 := Blk.new W2 28 #[.int .i64 k1, .int .i64 k2, .int .i64 k3, .int .i64 k4, .int .i64 k5]
  have x3 := Ext.alloc W2 (.cells #[.int .i64 k1, .int .i64 k2, .int .i64 k3, .int .i64 k4, .int .i64 k5] 28)
  rw [z2] at h3
  exact ⟨_, rfl, (x1.trans x2).trans x3, Blk.ext h1 (x2.trans x3), Blk.ext h2 x3, h3⟩

theorem EdOwn.nothing {w : World} {b : Nat} {v : Value} (h : EdOwn w b v []) : ∃ O c, v = .slice O 0 c := by
  obtain ⟨O, k, c, h1, h2⟩ := h.at_
  have := h2.len
  simp at this
  exact ⟨O, c, by rw [h1, ← this]⟩
/-- What an operator takes lies in the register without a name. -/
theorem keep_zero {l : List Int} {f t : Nat} {rl' : Nat → List Int} (h : KeepRel (fun _ => []) 0 f t ((l.drop f).take (t - f)) rl') (hft : f ≤ t) : rl' 0 = (l.drop f).take (t - f) := by
  by_cases he : f = t
  · rw [h.1 he]
    subst he
    simp
  · obtain ⟨i, m, h1, _, h2⟩ := h.2 (by omega)
    unfold regNo at h1
    rw [if_pos rfl] at h1
    injection h1 with h1
    injection h1 with h1 h3
    subst h1; subst h3; subst h2
    simp [putF, upd]
theorem took_len {l : List Int} {f t n : Nat} (hl : l.length = n) (hft : f ≤ t) (htn : t ≤ n) : ((l.drop f).take (t - f)).length = t - f := by
  simp; omega
theorem took_back {l : List Int} {f t : Nat} (hft : f ≤ t) (hf : f ≤ l.length) : (l.take f ++ l.drop t).take f ++ ((l.drop f).take (t - f)) ++ (l.take f ++ l.drop t).drop f = l := by
  have h1 : (l.take f).length = f := by simp; omega
  rw [List.take_append_of_le_length (by omega), List.take_of_length_le (by omega), List.drop_append_of_le_length (by omega), List.drop_of_length_le (l := l.take f) (by omega), List.nil_append]
  have h2 : l.drop t = (l.drop f).drop (t - f) := by rw [List.drop_drop, show f + (t - f) = t by omega]
  rw [h2, List.append_assoc, List.take_append_drop, List.take_append_drop]
/-! The literal: the word behind is taken. -/
theorem abc_back : plainF (chars ⟨#[97, 98, 32, 99]⟩) 3 98 1 true = some (0, false) := by decide +kernel
theorem abc_go {o : Option (Nat × Bool)} (h : goR (chars ⟨#[97, 98, 32, 99]⟩) 3 98 0 (max 1 (0 : Int)).toNat true o) : o = some (0, false) := by
  have h1 : isFind 98 = false := by decide +kernel
  unfold goR at h
  rw [h1] at h
  unfold plainR at h
  simp at h
  rw [h]
  exact abc_back
theorem abc_span {f t : Nat} (h : RangeIs (chars ⟨#[97, 98, 32, 99]⟩) 4 3 98 0 0 f t) : f = 0 ∧ t = 3 := by
  obtain ⟨_, x, i, h1, _, _, rfl, rfl⟩ := h
  have := abc_go h1
  injection this with this
  injection this with h2 h3
  subst h2; subst h3
  simp
theorem abc_found : foundF' 0 0 98 0 = some (98, 0, 0, 0) := by decide
theorem abc_ok : ValidC 4 3 0 0 100 ∧ OneOk (chars ⟨#[97, 98, 32, 99]⟩) 4 3 (fun _ => []) 0 0 100 98 0 0 0 False := by
  refine ⟨⟨⟨by omega, by omega, by omega⟩, ⟨by omega, by omega⟩, .inl rfl, .inr (.inl rfl)⟩, fun _ => ⟨98, 0, 0, 0, abc_found, ?_, fun h => ?_, fun _ f t h => ?_⟩, fun h => ?_, fun h => ?_⟩
  · exact ⟨by omega, by omega, by omega, by omega, by omega, by decide +kernel⟩
  · have := abc_go (o := none) (by simpa using h)
    cases this
  · obtain ⟨rfl, rfl⟩ := abc_span h
    refine ⟨fun h => by omega, fun _ => ⟨0, false, rfl, ?_⟩⟩
    unfold putBig
    simp
    rw [show (chars ⟨#[97, 98, 32, 99]⟩).length = 4 by decide +kernel]
    omega
  · exact absurd h (by decide)
  · exact absurd h (by decide)
theorem abc_took {f t : Nat} {whole : Bool} {zk za : Int} (h : OpSpan (chars ⟨#[97, 98, 32, 99]⟩) 4 3 0 100 98 0 0 0 f t whole zk za) : ((chars ⟨#[97, 98, 32, 99]⟩).drop f).take (t - f) = chars ⟨#[97, 98, 32]⟩ := by
  rcases h with ⟨_, _, mk, ma, h1, h2⟩ | ⟨h1, _⟩
  · rw [abc_found] at h1
    injection h1 with h1
    simp at h1
    obtain ⟨rfl, rfl, _, _⟩ := h1
    obtain ⟨rfl, rfl⟩ := abc_span h2
    decide +kernel
  · exact absurd h1 (by decide)

set_option maxRecDepth 20000 in
set_option maxHeartbeats 8000000 in
theorem editTakes_walk {w : World} {A : Option Addr} {n c : Nat} {a fk fa k1 k2 k3 k4 k5 : Int} {l : List Int} (hl : Ints w A n c l) (wl : ∀ x ∈ l, (Lit.int .i64 x).wf = true) (hA : A = none → c = 0) :
    Calls Try.prog 3 #[.agg #[.slice A n c, .int .i64 a], .agg #[.int .i64 fk, .int .i64 fa], .agg #[.int .i64 k1, .int .i64 k2, .int .i64 k3, .int .i64 k4, .int .i64 k5]] w fun e w' => e = .returned (.bool true) ∧ Ext w w' := by
  have HOf := fun w => Lib.hid (of_ok ⟨#[97, 98, 32, 99]⟩ w (by decide))
  have HOf2 := fun w => Lib.hid (of_ok ⟨#[97, 98, 32]⟩ w (by decide))
  have HL := Lib.hid hl
  have HWl := Lib.hid wl
  have HA := Lib.hid hA
  have hln := Lib.hid hl.len
  have hnc := Lib.hid (Nat.le_trans hl.ncap hl.nmax)
  clear hl hA wl
  obtain ⟨w0, hw0, hx0, hb3, hb4, hb5⟩ := take_start w A n c a fk fa k1 k2 k3 k4 k5
  have HW := Lib.hid hw0
  have HX0 := Lib.hid hx0
  have B3 := Lib.hid hb3
  have B4 := Lib.hid hb4
  have B5 := Lib.hid hb5
  clear hw0 hx0 hb3 hb4 hb5
  go_enter Try.func3, Try.ntmps3
  go_upto_region 1 with fail
  change Code.wp _ _ _ _ (((w.alloc (.cells #[.slice A n c, .int .i64 a] 24)).alloc (.cells #[.int .i64 fk, .int .i64 fa] 26)).alloc (.cells #[.int .i64 k1, .int .i64 k2, .int .i64 k3, .int .i64 k4, .int .i64 k5] 28))
  rw [← HW.out]
  clear HW
  go_wp2_with fail
  refine ((HOf _).out).mono ?_
  rintro e w1 ⟨T1, d1, rfl, ho1, he1⟩
  have hz4 : (⟨#[97, 98, 32, 99]⟩ : ByteArray).size = 4 := rfl
  rw [hz4] at ho1
  have HD1 := Lib.hid (do_op (a := 3) (fk := 0) (fa := 0) (k1 := 0) (k2 := 0) (k3 := 100) (k4 := 98) (k5 := 0) ho1.ints (by decide +kernel) (Own.nocap ho1) (noRegs_regs w1) (by decide))
  rw [noRegs_lit] at HD1
  rw [hz4]
  have HX1 := Lib.hid (HX0.out.trans he1)
  have C3 := Lib.hid (B3.out.ext he1)
  have C4 := Lib.hid (B4.out.ext he1)
  have C5 := Lib.hid (B5.out.ext he1)
  clear ho1 he1 HX0 B3 B4 B5 hz4 HOf
  go_wp2_with fail
  refine HD1.out.mono ?_
  rintro e w2 ⟨hx2, ⟨hno, _⟩ | ⟨vs1, f1, t1, wh1, m1, at1, md1, zk1, za1, rl1, ed1, rfl, _, hft1, htn1, hres1, hrel1, hsp1⟩⟩
  · exact absurd abc_ok hno
  have hto1 : rl1 0 = chars ⟨#[97, 98, 32]⟩ := by
    rw [keep_zero hrel1.2.1 hft1]
    exact abc_took hsp1
  obtain ⟨v1, hv1, hr1⟩ := hres1.regs 0 (by omega)
  rw [hto1] at hr1
  obtain ⟨S1, q1, e1, rfl, ho1, _, _⟩ := hr1
  have HX2 := Lib.hid (HX1.out.trans hx2)
  have D3 := Lib.hid (C3.out.ext hx2)
  have D4 := Lib.hid (C4.out.ext hx2)
  have D5 := Lib.hid (C5.out.ext hx2)
  have HS1 := Lib.hid hres1.size
  have HOn1 := Lib.hid hres1.one
  have HV1 := Lib.hid hv1
  have HO1 := Lib.hid (OwnI.ints ho1)
  clear hx2 HD1 hres1 hrel1 hsp1 hto1 hv1 ho1 HX1 C3 C4 C5 hft1 htn1
  go_upto_region 2 with (refine wpList_store_row rfl 33 (.tmp 7) (.tmp 20) rfl w2.heap.size vs1 rfl rfl 33 resZ (Blk.new w2 _ resZ) (res_size HS1.out) (by rw [HS1.out]; rfl) HOn1.out ?_)
  change Code.wp _ _ _ _ ((w2.alloc (.cells resZ 33)).setRow w2.heap.size vs1)
  obtain ⟨hx3, hb3⟩ := laid_res w2 vs1
  generalize (w2.alloc (.cells resZ 33)).setRow w2.heap.size vs1 = w3 at *
  have HX3 := Lib.hid (HX2.out.trans hx3)
  have E3 := Lib.hid (D3.out.ext hx3)
  have E4 := Lib.hid (D4.out.ext hx3)
  have E5 := Lib.hid (D5.out.ext hx3)
  have c6 : w3.cell? ⟨w2.heap.size, 2, none⟩ = some (.slice S1 q1 e1) := (hb3.cell 2).trans HV1.out
  have HI1 := Lib.hid (HO1.out.ext hx3)
  clear hx3 hb3 HX2 D3 D4 D5 HO1 HOn1 HS1 HV1
  go_cut [31] (fun v wx => v = .bool false ∧ Hid (Ext w3 wx))
  case first =>
    go_region_law (first
      | (refine step_callw (by kernel_rfl) 9 #[.string ⟨#[97, 98, 32]⟩] rfl (by kernel_rfl) (fun v w' => ∃ B d, v = .slice B 3 d ∧ Ints w' B 3 d (chars ⟨#[97, 98, 32]⟩) ∧ Ext w3.drew w') (((HOf2 _).out).mono fun e w' ⟨B, d, h1, h2, h3⟩ => ⟨_, h1, B, d, rfl, h2.ints, h3⟩) ?_
         rintro v w4 ⟨B9, d9, rfl, hi9, hx4⟩
         have c6' := hx4.cell c6)
      | (refine step_callw (by kernel_rfl) 10 #[.slice S1 q1 e1, .slice B9 3 d9] rfl (by kernel_rfl) (fun v w' => v = .bool true ∧ Ext w4 w') ((equal_ext (HI1.out.ext ((Ext.drew w3).trans hx4)) hi9).mono fun e w' ⟨h1, h2⟩ => ⟨_, h1, by rw [eqB_true.2 rfl], h2⟩) ?_
         rintro v w5 ⟨rfl, hx5⟩))
    all_goals
      have HXX := Lib.hid (((Ext.drew w3).trans hx4).trans hx5)
      clear hi9 hx4 hx5 c6'
      go_wp2_with fail
      go_meet
      exact ⟨rfl, HXX⟩
  case rest =>
    obtain ⟨rfl, HXc⟩ := hcut
    have F3 := Lib.hid (Blk.ext E3.out HXc.out)
    have F4 := Lib.hid (Blk.ext E4.out HXc.out)
    have F5 := Lib.hid (Blk.ext E5.out HXc.out)
    have HXW := Lib.hid (HX3.out.trans HXc.out)
    clear c6 HI1 E3 E4 E5 HX3 HXc HOf2
    obtain ⟨x0, x1⟩ := cells2L F3.out
    obtain ⟨z0, z1⟩ := cells2L F4.out
    obtain ⟨y0, y1, y2, y3, y4⟩ := cells5 F5.out
    by_cases h30 : k3 = 0
    · subst h30
      go_wp2_with fail
      go_ret
      exact ⟨rfl, HXW.out⟩
    have h3b : (k3 == 0) = false := by simp [h30]
    by_cases h20 : k2 = 0
    case neg =>
      have h2b : (k2 != 0) = true := by simp [h20]
      go_wp2_with fail
      go_ret
      exact ⟨rfl, HXW.out⟩
    subst h20
    have HLc := Lib.hid (HL.out.ext HXW.out)
    have HD := Lib.hid (do_op (a := a) (fk := fk) (fa := fa) (k1 := k1) (k2 := 0) (k3 := k3) (k4 := k4) (k5 := k5) HLc.out HWl.out HA.out (noRegs_regs wc) h30)
    rw [noRegs_lit] at HD
    clear h30
    go_wp2_with fail
    refine HD.out.mono ?_
    rintro e w6 ⟨hx6, ⟨_, er, her, rfl⟩ | ⟨vs, f, t, wh, m, at_, md, zk, za, rl', ed, rfl, hv, hft, htn, hres, hrel, _⟩⟩
    · have HX6 := Lib.hid (HXW.out.trans hx6)
      clear hx6 HD x0 x1 y0 y1 y2 y3 y4 z0 z1 HLc
      go_wp2_with (refine wpList_store_row rfl 33 (.tmp 9) _ rfl w6.heap.size resZ rfl rfl 33 resZ (Blk.new w6 _ resZ) (res_size rfl) rfl resZ_one ?_)
      go_ret
      exact ⟨rfl, Ext.trans HX6.out (laid_res w6 resZ).1⟩
    have hto : rl' 0 = (l.drop f).take (t - f) := keep_zero hrel.2.1 hft
    obtain ⟨v2, hv2, hr2⟩ := hres.regs 0 (by omega)
    rw [hto] at hr2
    obtain ⟨S2, q2, e2, rfl, ho2, _, _⟩ := hr2
    obtain ⟨S0, q0, e0, h00, ho0⟩ := hres.text
    obtain ⟨v3, hv3, hed⟩ := hres.edit
    have HN : Hid (n ≤ 200) := Lib.hid hv.1.1
    have HFT := Lib.hid (And.intro hft htn)
    have HRel := Lib.hid hrel
    have HX6 := Lib.hid (HXW.out.trans hx6)
    have G3 := Lib.hid (F3.out.ext hx6)
    have G5 := Lib.hid (F5.out.ext hx6)
    have HS2 := Lib.hid hres.size
    have HOn2 := Lib.hid hres.one
    have HC : Hid (vs[0]? = some (.slice S0 q0 e0) ∧ vs[2]? = some (.slice S2 q2 e2) ∧ vs[32]? = some v3) := Lib.hid ⟨h00, hv2, hv3⟩
    have HO0 := Lib.hid ho0
    have HO2 := Lib.hid ho2
    have HED := Lib.hid hed
    have h31 : k3 = 100 ∨ k3 = 99 ∨ k3 = 121 := by
      have := hv.2.2.2
      have := h3b
      simp at this
      omega
    have HK3 := Lib.hid h31
    clear hx6 HD x0 x1 y0 y1 y2 y3 y4 z0 z1 HLc hv hft htn hres hrel hto hv2 ho2 h00 ho0 hv3 hed HXW F3 F4 F5 h31 h3b
    go_upto_region 7 with (refine wpList_store_row rfl 33 (.tmp 9) _ rfl w6.heap.size vs rfl rfl 33 resZ (Blk.new w6 _ resZ) (res_size HS2.out) (by rw [HS2.out]; rfl) HOn2.out ?_)
    change Code.wp _ _ _ _ ((w6.alloc (.cells resZ 33)).setRow w6.heap.size vs)
    obtain ⟨hx7, hb7⟩ := laid_res w6 vs
    generalize (w6.alloc (.cells resZ 33)).setRow w6.heap.size vs = w7 at *
    generalize w6.heap.size = p at *
    have HX7 := Lib.hid (HX6.out.trans hx7)
    have I3 := Lib.hid (G3.out.ext hx7)
    have I5 := Lib.hid (G5.out.ext hx7)
    have I9 := Lib.hid hb7
    have HI0 := Lib.hid (HO0.out.ints.ext hx7)
    have HI2 := Lib.hid (HO2.out.ints.ext hx7)
    have HE7 := Lib.hid (HED.out.ext hx7)
    have HL7 := Lib.hid (HL.out.ext HX7.out)
    clear hx7 hb7 HX6 G3 G5 HO0 HO2 HED HOn2 HS2
    obtain ⟨x0, x1⟩ := cells2L I3.out
    have y2 : w7.cell? ⟨w.heap.size + 1 + 1, 2, none⟩ = some (.int .i64 k3) := I5.out.cell 2
    have u0 : w7.cell? ⟨p, 0, none⟩ = some (.slice S0 q0 e0) := (I9.out.cell 0).trans HC.out.1
    have u2 : w7.cell? ⟨p, 2, none⟩ = some (.slice S2 q2 e2) := (I9.out.cell 2).trans HC.out.2.1
    have u32 : w7.cell? ⟨p, 32, none⟩ = some v3 := (I9.out.cell 32).trans HC.out.2.2
    have hq2 : q2 = t - f := by rw [← HI2.out.len]; exact took_len hln.out HFT.out.1 HFT.out.2
    by_cases hy : k3 = 121
    · subst hy
      obtain ⟨hne, _, ⟨_, hm, _, he, _⟩ | ⟨h, _⟩⟩ := HRel.out
      case inr => exact absurd rfl h
      rw [he] at HE7
      obtain ⟨O, c3, hv3⟩ := HE7.out.nothing
      subst hv3
      rw [hm] at HI0
      have HEq := Lib.hid (equal_ext HI0.out HL7.out)
      rw [eqB_true.2 rfl] at HEq
      have hpos : 0 < q2 := by
        have : f ≠ t := fun h => by have := hne h; omega
        have := HFT.out.1
        omega
      clear hne hm he HE7
      go_wp2_with fail
      refine HEq.out.mono ?_
      rintro e w8 ⟨rfl, hx8⟩
      have HX8 := Lib.hid (HX7.out.trans hx8)
      have u32' := hx8.cell u32
      clear HEq hx8 x0 x1 y2 u0 u2 u32
      go_wp2_with fail
      go_ret
      exact ⟨rfl, HX8.out⟩
    have hyb : (k3 == 121) = false := by simp [hy]
    obtain ⟨_, _, ⟨h, _⟩ | ⟨_, hm, _, _⟩⟩ := HRel.out
    · exact absurd h hy
    obtain ⟨hft, htn⟩ := HFT.out
    have hn200 := HN.out
    have hq0 : q0 + (t - f) = n := by
      rw [← HI0.out.len, hm]
      have := hln.out
      simp
      omega
    have hb1 : (((q2 : Int) + (q0 : Int)) != (n : Int)) = false := by simp; omega
    have hfq : f ≤ q0 := by omega
    have hqs : q0 ≤ 200 := by omega
    have hqs2 : q2 ≤ 200 := by omega
    obtain ⟨tk, htk⟩ : ∃ tk, (l.drop f).take (t - f) = tk := ⟨_, rfl⟩
    rw [htk] at HI2
    have HBk : Hid (m.take f ++ tk ++ m.drop f = l) := Lib.hid (by rw [hm, ← htk]; exact took_back hft (by rw [hln.out]; omega))
    clear hq2 hq0 hm htk hft htn hn200
    go_wp2_with fail
    go_loopw [89] (fun s wx => ∃ i : Nat, i ≤ f ∧ s = .int .i64 i ∧ Hid (Ext w7 wx)) (fun s _ => f + 1 - (intOf s).toNat)
    case atStart => exact ⟨0, Nat.zero_le _, rfl, Lib.hid (Ext.refl _)⟩
    case round =>
      obtain ⟨i, hi, rfl, hxr⟩ := hrel
      have hi1 : i < q0 + 1 := by omega
      have hiq : i ≤ q0 := by omega
      have HLr := Lib.hid (HL7.out.ext hxr.out)
      have HC : Hid (∀ T2, (if e0 = i then S0 else Option.map (fun x => x.add i) S0) = T2 → Calls Try.prog 11 #[.slice (some ⟨wr.heap.size, 0, none⟩) 3 3] (wr.drew.alloc (.cells #[.slice S0 i e0, .slice S2 q2 e2, .slice T2 (q0 - i) (e0 - i)] 22)) fun e w' => ∃ B q b, e = .returned (.slice B q b) ∧ Ints w' B q b (m.take i ++ tk ++ m.drop i) ∧ Ext wr w') := Lib.hid (by
        intro T2 hT2
        have he : Ext wr (wr.drew.alloc (.cells #[.slice S0 i e0, .slice S2 q2 e2, .slice T2 (q0 - i) (e0 - i)] 22)) := (Ext.drew wr).to_alloc _
        have hl' := HI0.out.ext (hxr.out.trans he)
        have hx' := HI2.out.ext (hxr.out.trans he)
        have hS : Rd (wr.drew.alloc (.cells #[.slice S0 i e0, .slice S2 q2 e2, .slice T2 (q0 - i) (e0 - i)] 22)) 1 (some ⟨wr.heap.size, 0, none⟩) 3 3 [.slice S0 i e0, .slice S2 q2 e2, .slice T2 (q0 - i) (e0 - i)] := Rd.litAt wr.drew 22 _ rfl rfl (by omega)
        have l1 := hl'.len
        have l2 := hx'.len
        have h1 := concat_ok hS (Lists.three (hl'.front (k := i) hiq) hx' (by have h := hl'.cut hiq (Nat.le_refl q0); rw [hT2] at h; exact h)) rfl (by
          simp
          omega)
        refine h1.mono fun e w' ⟨B, q, b, h2, h3, h4⟩ => ⟨B, q, b, h2, ?_, he.trans h4⟩
        have : (m.take i :: tk :: [(m.drop i).take (q0 - i)]).flatten = m.take i ++ tk ++ m.drop i := by
          have hh : (m.drop i).take (q0 - i) = m.drop i := List.take_of_length_le (by rw [List.length_drop, l1]; exact Nat.le_refl _)
          rw [hh]
          simp
        rw [← this]
        exact h3.ints)
      have hec : e0 ≤ 9223372036854775807 := by have := HI0.out.nmax; unfold maxLen at this; omega
      have hqe : q0 ≤ e0 := HI0.out.ncap
      have hie : i ≤ e0 := by omega
      obtain ⟨T2, hT2⟩ : ∃ T2, (if e0 = i then S0 else Option.map (fun x => x.add i) S0) = T2 := ⟨_, rfl⟩
      have HC := Lib.hid (HC.out T2 hT2)
      have x0 : wr.cell? ⟨w.heap.size, 0, none⟩ = some (.slice A n c) := hxr.out.cell x0
      have u0 : wr.cell? ⟨p, 0, none⟩ = some (.slice S0 q0 e0) := hxr.out.cell u0
      go_upto_region 17 with fail
      refine wp_region_held_drew (S := fun w' => w'.cell? ⟨w.heap.size, 0, none⟩ = some (.slice A n c) ∧ w'.cell? ⟨p, 0, none⟩ = some (.slice S0 q0 e0)) (by kernel_rfl) ⟨x0, u0⟩ (fun hHeld => ?_)
      refine wpAnyH_take (i := 0) (v := (.pointer (some ⟨p, 0, none⟩))) rfl (by kernel_rfl) (by kernel_rfl) (by kernel_rfl) (fun _ _ _ h => h) (Or.inl ⟨by rfl, by (intro w hSw; obtain ⟨s0, s1⟩ := hSw; go_simp)⟩) hHeld ?_
      try simp only [List.getElem_toArray, List.getElem_cons_zero, List.getElem_cons_succ, Act.put, List.setIfInBounds_toArray, List.set_cons_zero, List.set_cons_succ]
      refine wpAnyH_take (i := 1) (v := (.pointer (some ⟨p, 0, none⟩))) rfl (by kernel_rfl) (by kernel_rfl) (by kernel_rfl) (fun _ _ _ h => h) (Or.inl ⟨by rfl, by (intro w hSw; obtain ⟨s0, s1⟩ := hSw; go_simp)⟩) hHeld ?_
      try simp only [List.getElem_toArray, List.getElem_cons_zero, List.getElem_cons_succ, Act.put, List.setIfInBounds_toArray, List.set_cons_zero, List.set_cons_succ]
      refine wpAnyH_take (i := 2) (v := (.slice S0 q0 e0)) rfl (by kernel_rfl) (by kernel_rfl) (by kernel_rfl) (fun _ _ _ h => h) (Or.inl ⟨by rfl, by (intro w hSw; obtain ⟨s0, s1⟩ := hSw; go_simp)⟩) hHeld ?_
      try simp only [List.getElem_toArray, List.getElem_cons_zero, List.getElem_cons_succ, Act.put, List.setIfInBounds_toArray, List.set_cons_zero, List.set_cons_succ]
      refine wpAnyH_take (i := 3) (v := (.int .i64 (i : Int))) rfl (by kernel_rfl) (by kernel_rfl) (by kernel_rfl) (fun _ _ _ h => h) (Or.inl ⟨by rfl, by (intro w hSw; obtain ⟨s0, s1⟩ := hSw; go_simp)⟩) hHeld ?_
      try simp only [List.getElem_toArray, List.getElem_cons_zero, List.getElem_cons_succ, Act.put, List.setIfInBounds_toArray, List.set_cons_zero, List.set_cons_succ]
      refine wpAnyH_take (i := 4) (v := (.slice S0 i e0)) rfl (by kernel_rfl) (by kernel_rfl) (by kernel_rfl) (fun _ _ _ h => h) (Or.inl ⟨by rfl, by (intro w hSw; obtain ⟨s0, s1⟩ := hSw; go_simp)⟩) hHeld ?_
      try simp only [List.getElem_toArray, List.getElem_cons_zero, List.getElem_cons_succ, Act.put, List.setIfInBounds_toArray, List.set_cons_zero, List.set_cons_succ]
      refine wpAnyH_take (i := 5) (v := (.slice S2 q2 e2)) rfl (by kernel_rfl) (by kernel_rfl) (by kernel_rfl) (fun _ _ _ h => h) (Or.inl ⟨by rfl, by (intro w hSw; obtain ⟨s0, s1⟩ := hSw; go_simp)⟩) hHeld ?_
      try simp only [List.getElem_toArray, List.getElem_cons_zero, List.getElem_cons_succ, Act.put, List.setIfInBounds_toArray, List.set_cons_zero, List.set_cons_succ]
      refine wpAnyH_take (i := 6) (v := (.pointer (some ⟨p, 0, none⟩))) rfl (by kernel_rfl) (by kernel_rfl) (by kernel_rfl) (fun _ _ _ h => h) (Or.inl ⟨by rfl, by (intro w hSw; obtain ⟨s0, s1⟩ := hSw; go_simp)⟩) hHeld ?_
      try simp only [List.getElem_toArray, List.getElem_cons_zero, List.getElem_cons_succ, Act.put, List.setIfInBounds_toArray, List.set_cons_zero, List.set_cons_succ]
      refine wpAnyH_take (i := 7) (v := (.pointer (some ⟨p, 0, none⟩))) rfl (by kernel_rfl) (by kernel_rfl) (by kernel_rfl) (fun _ _ _ h => h) (Or.inl ⟨by rfl, by (intro w hSw; obtain ⟨s0, s1⟩ := hSw; go_simp)⟩) hHeld ?_
      try simp only [List.getElem_toArray, List.getElem_cons_zero, List.getElem_cons_succ, Act.put, List.setIfInBounds_toArray, List.set_cons_zero, List.set_cons_succ]
      refine wpAnyH_take (i := 8) (v := (.slice S0 q0 e0)) rfl (by kernel_rfl) (by kernel_rfl) (by kernel_rfl) (fun _ _ _ h => h) (Or.inl ⟨by rfl, by (intro w hSw; obtain ⟨s0, s1⟩ := hSw; go_simp)⟩) hHeld ?_
      try simp only [List.getElem_toArray, List.getElem_cons_zero, List.getElem_cons_succ, Act.put, List.setIfInBounds_toArray, List.set_cons_zero, List.set_cons_succ]
      refine wpAnyH_take (i := 9) (v := (.int .i64 (i : Int))) rfl (by kernel_rfl) (by kernel_rfl) (by kernel_rfl) (fun _ _ _ h => h) (Or.inl ⟨by rfl, by (intro w hSw; obtain ⟨s0, s1⟩ := hSw; go_simp)⟩) hHeld ?_
      try simp only [List.getElem_toArray, List.getElem_cons_zero, List.getElem_cons_succ, Act.put, List.setIfInBounds_toArray, List.set_cons_zero, List.set_cons_succ]
      refine wpAnyH_take (i := 10) (v := (.slice T2 (q0 - i) (e0 - i))) rfl (by kernel_rfl) (by kernel_rfl) (by kernel_rfl) (fun _ _ _ h => h) (Or.inl ⟨by rfl, by (intro w hSw; obtain ⟨s0, s1⟩ := hSw; go_simp)⟩) hHeld ?_
      try simp only [List.getElem_toArray, List.getElem_cons_zero, List.getElem_cons_succ, Act.put, List.setIfInBounds_toArray, List.set_cons_zero, List.set_cons_succ]
      refine wpAnyH_take (i := 13) (v := (.pointer (some ⟨w.heap.size, 0, none⟩))) rfl (by kernel_rfl) (by kernel_rfl) (by kernel_rfl) (fun _ _ _ h => h) (Or.inl ⟨by rfl, by (intro w hSw; obtain ⟨s0, s1⟩ := hSw; go_simp)⟩) hHeld ?_
      try simp only [List.getElem_toArray, List.getElem_cons_zero, List.getElem_cons_succ, Act.put, List.setIfInBounds_toArray, List.set_cons_zero, List.set_cons_succ]
      refine wpAnyH_take (i := 14) (v := (.slice A n c)) rfl (by kernel_rfl) (by kernel_rfl) (by kernel_rfl) (fun _ _ _ h => h) (Or.inl ⟨by rfl, by (intro w hSw; obtain ⟨s0, s1⟩ := hSw; go_simp)⟩) hHeld ?_
      try simp only [List.getElem_toArray, List.getElem_cons_zero, List.getElem_cons_succ, Act.put, List.setIfInBounds_toArray, List.set_cons_zero, List.set_cons_succ]
      refine wpAnyH_ready (rs := [11]) (by kernel_rfl) (by simp) ?_
      refine AllReadyH.cons rfl (fun K hK => ?_) AllReadyH.nil
      go_simp
      refine hK.out _ _ ⟨(Ext.alloc wr.drew _).cell x0, (Ext.alloc wr.drew _).cell u0⟩ (fun hHeld2 => ?_)
      clear hK K hHeld
      try simp only [List.getElem_toArray, List.getElem_cons_zero, List.getElem_cons_succ, Act.put, List.setIfInBounds_toArray, List.set_cons_zero, List.set_cons_succ]
      refine wpAnyH_ready (rs := [12]) (by kernel_rfl) (by simp) ?_
      refine AllReadyH.cons rfl (fun K hK => ?_) AllReadyH.nil
      refine step_callf rfl 11 #[.slice (some ⟨wr.heap.size, 0, none⟩) 3 3] rfl (by kernel_rfl) (fun v w' => ∃ B q b, v = .slice B q b ∧ Ints w' B q b (m.take i ++ tk ++ m.drop i) ∧ Ext wr w') (HC.out.mono fun e w' ⟨B, q, b, h1, h2, h3⟩ => ⟨_, h1, B, q, b, rfl, h2, h3⟩) ?_
      rintro v w3 ⟨B, q, b, rfl, hO3, hx3⟩
      refine hK.out _ _ ⟨hx3.cell x0, hx3.cell u0⟩ (fun hHeld3 => ?_)
      clear hK K hHeld2
      try simp only [List.getElem_toArray, List.getElem_cons_zero, List.getElem_cons_succ, Act.put, List.setIfInBounds_toArray, List.set_cons_zero, List.set_cons_succ]
      refine wpAnyH_ready (rs := [15]) (by kernel_rfl) (by simp) ?_
      refine AllReadyH.cons rfl (fun K hK => ?_) AllReadyH.nil
      refine step_callf rfl 10 #[.slice B q b, .slice A n c] rfl (by kernel_rfl) (fun v w' => v = .bool (eqB (m.take i ++ tk ++ m.drop i) l) ∧ Ext w3 w') ((equal_ext hO3 (HLr.out.ext hx3)).mono fun e w' ⟨h1, h2⟩ => ⟨_, h1, rfl, h2⟩) ?_
      rintro v w4 ⟨rfl, hx4⟩
      refine hK.out _ _ ⟨(hx3.trans hx4).cell x0, (hx3.trans hx4).cell u0⟩ (fun hHeld4 => ?_)
      clear hK K hHeld3
      try simp only [List.getElem_toArray, List.getElem_cons_zero, List.getElem_cons_succ, Act.put, List.setIfInBounds_toArray, List.set_cons_zero, List.set_cons_succ]
      refine wpAnyH_done (by kernel_rfl) ?_ _
      have HX9 := Lib.hid (hx3.trans hx4)
      clear hO3 hx3 hx4 hT2
      by_cases hEq : m.take i ++ tk ++ m.drop i = l
      · rw [eqB_true.2 hEq]
        clear hEq
        go_wp2_with fail
        go_ret
        exact ⟨rfl, HX7.out.trans (hxr.out.trans HX9.out)⟩
      · rw [eqB_false.2 hEq]
        have hif : i < f := by
          refine Nat.lt_of_le_of_ne hi fun h => hEq ?_
          rw [h]
          exact HBk.out
        clear hEq
        go_wp2_with fail
        go_roundw
        case rel => exact ⟨i + 1, by omega, by go_num, Lib.hid (hxr.out.trans HX9.out)⟩
        case measure => simp [intOf]; omega
end Go.Proofs.Ytmhgndjmcignjaa
