/-
  The walk of the statement that letters that are turned twice are as they were.
-/
import Derived.Test.YtmhgndjmcignjaaDoF
import Derived.Test.YtmhgndjmcignjaaLib
import Derived.Test.YtmhgndjmcignjaaEq
namespace Go.Proofs.Ytmhgndjmcignjaa
open Go.RowKit
set_option linter.unusedVariables false
set_option linter.unusedSimpArgs false

theorem case_start (w : World) (A : Option Addr) (n c : Nat) (a k : Int) : Ext w ((w.alloc (.cells #[.slice A n c, .int .i64 a] 24)).alloc (.cells #[.int .i64 k, .int .i64 0, .int .i64 0, .int .i64 126, .int .i64 0] 28)) ∧ Blk ((w.alloc (.cells #[.slice A n c, .int .i64 a] 24)).alloc (.cells #[.int .i64 k, .int .i64 0, .int .i64 0, .int .i64 126, .int .i64 0] 28)) w.heap.size 24 #[.slice A n c, .int .i64 a] ∧ Blk ((w.alloc (.cells #[.slice A n c, .int .i64 a] 24)).alloc (.cells #[.int .i64 k, .int .i64 0, .int .i64 0, .int .i64 126, .int .i64 0] 28)) (w.heap.size + 1) 28 #[.int .i64 k, .int .i64 0, .int .i64 0, .int .i64 126, .int .i64 0] := by
  refine ⟨(Ext.alloc w _).to_alloc _, Blk.ext (Blk.new w _ _) (Ext.alloc _ _), ?_⟩
  have := Blk.new (w.alloc (.cells #[.slice A n c, .int .i64 a] 24)) 28 #[.int .i64 k, .int .i64 0, .int .i64 0, .int .i64 126, .int .i64 0]
  rwa [World.size_alloc] at this
theorem aB1 : caseL (chars ⟨#[97, 66, 49]⟩) 0 (min (max 1 (3 : Int).toNat) (3 - 0)) = chars ⟨#[65, 98, 49]⟩ := by decide +kernel

set_option maxRecDepth 20000 in
set_option maxHeartbeats 8000000 in
theorem editCase_walk {w : World} {A : Option Addr} {n c : Nat} {a k : Int} {l : List Int} (hl : Ints w A n c l) (hA : A = none → c = 0) :
    Calls Try.prog 5 #[.agg #[.slice A n c, .int .i64 a], .int .i64 k] w fun e w' => e = .returned (.bool true) ∧ Ext w w' := by
  have HOf := fun w => Lib.hid (of_ok ⟨#[97, 66, 49]⟩ w (by decide))
  have HOf2 := fun w => Lib.hid (of_ok ⟨#[65, 98, 49]⟩ w (by decide))
  have HL := Lib.hid hl
  have HA := Lib.hid hA
  clear hl hA
  go_enter Try.func5, Try.ntmps5
  go_wp2_with fail
  refine ((HOf _).out).mono ?_
  obtain ⟨hx0, hb0, hb1⟩ := case_start w A n c a k
  generalize ((w.alloc (.cells #[.slice A n c, .int .i64 a] 24)).alloc (.cells #[.int .i64 k, .int .i64 0, .int .i64 0, .int .i64 126, .int .i64 0] 28)) = w0 at *
  have HX0 := Lib.hid hx0
  have B2 := Lib.hid hb0
  have B5 := Lib.hid hb1
  clear hx0 hb0 hb1 HOf
  rintro e w1 ⟨T1, d1, rfl, ho1, he1⟩
  have HD1 := Lib.hid (do_case_lit (a := 0) (k1 := 3) ho1.ints (Own.nocap ho1) (by decide) (by decide) (by decide) (by decide))
  have hz3 : (⟨#[97, 66, 49]⟩ : ByteArray).size = 3 := rfl
  rw [hz3] at HD1
  rw [hz3]
  rw [aB1] at HD1
  have HX1 := Lib.hid (HX0.out.trans he1)
  have C2 := Lib.hid (B2.out.ext he1)
  have C5 := Lib.hid (B5.out.ext he1)
  clear ho1 he1 HX0 B2 B5 hz3
  go_wp2_with fail
  refine HD1.out.mono ?_
  rintro e w2 ⟨hx2, ⟨hno, _⟩ | ⟨cs1, hz1, hone1, rfl, _, S1, q1, e1, h34, ho1⟩⟩
  · exact absurd (by decide) hno
  have HX2 := Lib.hid (HX1.out.trans hx2)
  have D2 := Lib.hid (C2.out.ext hx2)
  have D5 := Lib.hid (C5.out.ext hx2)
  have hsz1 : (cs1.extract 34 67).size = 33 := by simp [hz1]
  have hv0 : (cs1.extract 34 67)[0]? = some (.slice S1 q1 e1) := by rw [Array.getElem?_extract, if_pos (by omega)]; exact h34
  have HS1 := Lib.hid hsz1
  have HV0 := Lib.hid hv0
  have HO1 := Lib.hid ho1
  have HOn1 := Lib.hid hone1
  clear hx2 HD1 hz1 h34 ho1 hone1 hsz1 hv0 HX1 C2 C5
  generalize cs1.extract 34 67 = vs1 at *
  go_wp2_with (refine wpList_store_row rfl 33 (.tmp 6) (.tmp 24) rfl w2.heap.size vs1 rfl rfl 33 resZ (Blk.new w2 _ resZ) (res_size HS1.out) (by rw [HS1.out]; rfl) HOn1.out ?_)
  change Code.wp _ _ _ _ ((w2.alloc (.cells resZ 33)).setRow w2.heap.size vs1)
  obtain ⟨hx3, hb3⟩ := laid_res w2 vs1
  generalize (w2.alloc (.cells resZ 33)).setRow w2.heap.size vs1 = w3 at *
  have HX3 := Lib.hid (HX2.out.trans hx3)
  have E2 := Lib.hid (D2.out.ext hx3)
  have E5 := Lib.hid (D5.out.ext hx3)
  have c6 : w3.cell? ⟨w2.heap.size, 0, none⟩ = some (.slice S1 q1 e1) := (hb3.cell 0).trans HV0.out
  have HI1 := Lib.hid (HO1.out.ints.ext hx3)
  clear hx3 hb3 HX2 D2 D5 HO1 HOn1 HS1 HV0
  go_cut [35] (fun v wx => v = .bool false ∧ Hid (Ext w3 wx))
  case first =>
    go_region_law (first
      | (refine step_callw (by kernel_rfl) 9 #[.string ⟨#[65, 98, 49]⟩] rfl (by kernel_rfl) (fun v w' => ∃ B d, v = .slice B 3 d ∧ Ints w' B 3 d (chars ⟨#[65, 98, 49]⟩) ∧ Ext w3.drew w') (((HOf2 _).out).mono fun e w' ⟨B, d, h1, h2, h3⟩ => ⟨_, h1, B, d, rfl, h2.ints, h3⟩) ?_
         rintro v w4 ⟨B9, d9, rfl, hi9, hx4⟩
         have c6' := hx4.cell c6)
      | (refine step_callw (by kernel_rfl) 10 #[.slice S1 q1 e1, .slice B9 3 d9] rfl (by kernel_rfl) (fun v w' => v = .bool true ∧ Ext w4 w') ((equal_ext (HI1.out.ext ((Ext.drew w3).trans hx4)) hi9).mono fun e w' ⟨h1, h2⟩ => ⟨_, h1, by rw [eqB_true.2 rfl], h2⟩) ?_
         rintro v w5 ⟨rfl, hx5⟩))
    all_goals
      have HXX := Lib.hid (((Ext.drew w3).trans hx4).trans hx5)
      clear hi9 hx4 hx5 c6'
      go_wp2_with fail
      go_meet
      exact ⟨rfl, HXX⟩
  case rest =>
    obtain ⟨rfl, HXc⟩ := hcut
    have F2 := Lib.hid (Blk.ext E2.out HXc.out)
    have F5 := Lib.hid (Blk.ext E5.out HXc.out)
    have HXW := Lib.hid (HX3.out.trans HXc.out)
    clear c6 HI1 E2 E5 HX3 HXc HOf2
    obtain ⟨x0, x1⟩ := cells2L F2.out
    obtain ⟨y0, y1, y2, y3, y4⟩ := cells5 F5.out
    have hnm : n ≤ maxLen := Nat.le_trans HL.out.ncap HL.out.nmax
    by_cases hval : (n ≤ 200 ∧ 0 ≤ a ∧ a ≤ max 0 ((n : Int) - 1)) ∧ 0 ≤ k ∧ k ≤ 999
    case neg =>
      have HD := Lib.hid (do_bad (w := wc) (A := A) (n := n) (c := c) (a := a) (fk := 0) (fa := 0) (k1 := k) (k2 := 0) (k3 := 0) (k4 := 126) (k5 := 0) (rs := #[.slice none 0 0, .slice none 0 0, .slice none 0 0, .slice none 0 0, .slice none 0 0, .slice none 0 0, .slice none 0 0, .slice none 0 0, .slice none 0 0, .slice none 0 0, .slice none 0 0, .slice none 0 0, .slice none 0 0, .slice none 0 0, .slice none 0 0, .slice none 0 0, .slice none 0 0, .slice none 0 0, .slice none 0 0, .slice none 0 0, .slice none 0 0, .slice none 0 0, .slice none 0 0, .slice none 0 0, .slice none 0 0, .slice none 0 0, .slice none 0 0]) (Ok := False) (Post := fun _ _ => False) hnm (by
        rcases Classical.em (n ≤ 200 ∧ 0 ≤ a ∧ a ≤ max 0 ((n : Int) - 1)) with h1 | h1
        · exact .inr (fun h2 => hval ⟨h1, h2⟩)
        · exact .inl h1) id)
      clear hval hnm
      go_wp2_with fail
      refine HD.out.mono ?_
      rintro e w6 ⟨hx6, ⟨_, er, her, rfl⟩ | ⟨_, _, _, _, hf⟩⟩
      · have HX6 := Lib.hid (HXW.out.trans hx6)
        clear hx6 HD x0 x1 y0 y1 y2 y3 y4
        go_wp2_with (refine wpList_store_row rfl 33 (.tmp 8) (.tmp 42) rfl w6.heap.size resZ rfl rfl 33 resZ (Blk.new w6 _ resZ) (res_size rfl) rfl resZ_one ?_)
        go_ret
        exact ⟨rfl, Ext.trans HX6.out (laid_res w6 resZ).1⟩
      · exact hf.elim
    case pos =>
      obtain ⟨⟨hn, ha, ha2⟩, hk, hk2⟩ := hval
      obtain ⟨a', rfl⟩ : ∃ a' : Nat, a = (a' : Int) := ⟨a.toNat, by omega⟩
      have HLc := Lib.hid (HL.out.ext HXW.out)
      have HD := Lib.hid (do_case_lit (w := wc) (a := a') HLc.out HA.out hn ha2 hk hk2)
      clear hnm
      go_wp2_with fail
      refine HD.out.mono ?_
      rintro e w6 ⟨hx6, ⟨_, er, her, rfl⟩ | ⟨cs2, hz2, hone2, rfl, hne, S2, q2, e2, h34, ho2⟩⟩
      · have HX6 := Lib.hid (HXW.out.trans hx6)
        clear hx6 HD x0 x1 y0 y1 y2 y3 y4 HLc
        go_wp2_with (refine wpList_store_row rfl 33 (.tmp 8) (.tmp 42) rfl w6.heap.size resZ rfl rfl 33 resZ (Blk.new w6 _ resZ) (res_size rfl) rfl resZ_one ?_)
        go_ret
        exact ⟨rfl, Ext.trans HX6.out (laid_res w6 resZ).1⟩
      · obtain ⟨kk, hkk⟩ : ∃ kk, min (max 1 k.toNat) (n - a') = kk := ⟨_, rfl⟩
        rw [hkk] at ho2 hne
        have hak : a' + kk ≤ n := by omega
        have hln : l.length = n := HL.out.len
        have hTl : (caseL l a' kk).length = n := by rw [caseL_len (by omega)]; exact hln
        have hqn : q2 = n := by rw [← ho2.ints.len]; exact hTl
        subst hqn
        obtain ⟨T, hT⟩ : ∃ T, caseL l a' kk = T := ⟨_, rfl⟩
        have hn0 : q2 ≠ 0 := fun h => hne (List.eq_nil_of_length_eq_zero (by omega))
        have hback : caseL T a' kk = l := by rw [← hT]; exact caseL_twice (by omega)
        rw [hT] at ho2
        have hsz2 : (cs2.extract 34 67).size = 33 := by simp [hz2]
        have hv2 : (cs2.extract 34 67)[0]? = some (.slice S2 q2 e2) := by rw [Array.getElem?_extract, if_pos (by omega)]; exact h34
        have HS2 := Lib.hid hsz2
        have HV2 := Lib.hid hv2
        have HO2 := Lib.hid ho2
        have HOn2 := Lib.hid hone2
        have HX6 := Lib.hid (HXW.out.trans hx6)
        have G2 := Lib.hid (F2.out.ext hx6)
        have G5 := Lib.hid (F5.out.ext hx6)
        have HKK := Lib.hid hkk
        have HBk := Lib.hid hback
        have HTT := Lib.hid hT
        have HAK := Lib.hid hak
        have HLN := Lib.hid hln
        clear hx6 HD x0 x1 y0 y1 y2 y3 y4 hz2 h34 ho2 hone2 hsz2 hv2 hne hTl hkk hback hT hln F2 F5 HXW HLc hak
        generalize cs2.extract 34 67 = vs2 at *
        go_upto_region 6 with (refine wpList_store_row rfl 33 (.tmp 8) (.tmp 42) rfl w6.heap.size vs2 rfl rfl 33 resZ (Blk.new w6 _ resZ) (res_size HS2.out) (by rw [HS2.out]; rfl) HOn2.out ?_)
        change Code.wp _ _ _ _ ((w6.alloc (.cells resZ 33)).setRow w6.heap.size vs2)
        obtain ⟨hx7, hb7⟩ := laid_res w6 vs2
        generalize (w6.alloc (.cells resZ 33)).setRow w6.heap.size vs2 = w7 at *
        have HX7 := Lib.hid (HX6.out.trans hx7)
        have I2 := Lib.hid (G2.out.ext hx7)
        have I5 := Lib.hid (G5.out.ext hx7)
        have C8 : Hid (∀ wx, Ext w7 wx → wx.cell? ⟨w6.heap.size, 0, none⟩ = some (.slice S2 q2 e2)) := Lib.hid fun wx he => he.cell ((hb7.cell 0).trans HV2.out)
        have HO7 := Lib.hid (Own.ext HO2.out hx7)
        clear hx7 hb7 HX6 G2 G5 HO2 HOn2 HS2 HV2
        have c8 := C8.out w7 (Ext.refl _)
        obtain ⟨x0, x1⟩ := cells2L I2.out
        obtain ⟨y0, y1, y2, y3, y4⟩ := cells5 I5.out
        have HT7 : Hid (OwnI w7 (wc.heap.size + 5) S2 q2 e2 T) := Lib.hid HO7.out
        have HD := Lib.hid (do_case_lit (w := w7) (a := a') HT7.out.ints (Own.nocap HT7.out) hn ha2 hk hk2)
        rw [HKK.out, HBk.out] at HD
        clear HO7
        go_wp2_with fail
        refine HD.out.mono ?_
        rintro e w8 ⟨hx8, ⟨hno, _⟩ | ⟨cs3, hz3, hone3, rfl, _, S3, q3, e3, h34, ho3⟩⟩
        · exact absurd hn0 hno
        have hq3 : q3 = q2 := by rw [← ho3.ints.len]; exact HLN.out
        subst hq3
        have hsz3 : (cs3.extract 34 67).size = 33 := by simp [hz3]
        have hv3 : (cs3.extract 34 67)[0]? = some (.slice S3 q3 e3) := by rw [Array.getElem?_extract, if_pos (by omega)]; exact h34
        have HS3 := Lib.hid hsz3
        have HV3 := Lib.hid hv3
        have HO3 := Lib.hid ho3
        have HOn3 := Lib.hid hone3
        have HX8 := Lib.hid (HX7.out.trans hx8)
        have J2 := Lib.hid (I2.out.ext hx8)
        have C8b := Lib.hid (C8.out w8 hx8)
        have HT8 := Lib.hid (Own.ext HT7.out hx8)
        have HX78 := Lib.hid hx8
        clear hx8 HD x0 x1 y0 y1 y2 y3 y4 c8 hz3 h34 ho3 hone3 hsz3 hv3 I2 I5
        generalize cs3.extract 34 67 = vs3 at *
        go_upto_region 9 with (refine wpList_store_row rfl 33 (.tmp 10) (.tmp 57) rfl w8.heap.size vs3 rfl rfl 33 resZ (Blk.new w8 _ resZ) (res_size HS3.out) (by rw [HS3.out]; rfl) HOn3.out ?_)
        change Code.wp _ _ _ _ ((w8.alloc (.cells resZ 33)).setRow w8.heap.size vs3)
        obtain ⟨hx9, hb9⟩ := laid_res w8 vs3
        generalize (w8.alloc (.cells resZ 33)).setRow w8.heap.size vs3 = w9 at *
        have HX9 := Lib.hid (HX8.out.trans hx9)
        have K2 := Lib.hid (J2.out.ext hx9)
        have c10 : w9.cell? ⟨w8.heap.size, 0, none⟩ = some (.slice S3 q3 e3) := (hb9.cell 0).trans HV3.out
        have c8 : w9.cell? ⟨w6.heap.size, 0, none⟩ = some (.slice S2 q3 e2) := hx9.cell C8b.out
        have HO9 := Lib.hid (Own.ext HO3.out hx9)
        have HT9 := Lib.hid (Own.ext HT8.out hx9)
        obtain ⟨x0, x1⟩ := cells2L K2.out
        have HL9 := Lib.hid (HL.out.ext HX9.out)
        have HEq := Lib.hid (equal_ext (OwnI.ints HO9.out) HL9.out)
        rw [eqB_true.2 rfl] at HEq
        clear hx9 hb9 HX8 J2 C8b HO3 HT8 HX78 C8 HV3 HS3 HOn3
        go_wp2_with fail
        refine HEq.out.mono ?_
        rintro e w10 ⟨rfl, hx10⟩
        have HX10 := Lib.hid (HX9.out.trans hx10)
        have L2 := Lib.hid (K2.out.ext hx10)
        have d8 : w10.cell? ⟨w6.heap.size, 0, none⟩ = some (.slice S2 q3 e2) := hx10.cell c8
        have HL10 := Lib.hid (HL9.out.ext hx10)
        have HT10 : Hid (Ints w10 S2 q3 e2 T) := Lib.hid ((OwnI.ints HT9.out).ext hx10)
        clear HEq x0 x1 c8 c10 hx10 HX9 K2 HL9 HO9 HT9 HT7
        obtain ⟨x0, x1⟩ := cells2L L2.out
        have hqq : ((q3 : Int) != (q3 : Int)) = false := by simp
        go_wp2_with fail
        go_loopw [83] (fun s83 wx => ∃ i : Nat, i ≤ q3 ∧ s83 = .int .i64 i ∧ wx = w10) (fun s83 _ => q3 - (intOf s83).toNat)
        case atStart => exact ⟨0, by omega, rfl, rfl⟩
        case round =>
          obtain ⟨i, hi, rfl, rfl⟩ := hrel
          by_cases hlt : i < q3
          · obtain ⟨ad, e, hc⟩ := HL10.out.at_ (k := i) hlt
            subst e
            have hci := hc i hlt
            obtain ⟨ad2, e', hc2⟩ := HT10.out.at_ (k := i) hlt
            subst e'
            have hci2 := hc2 i hlt
            have hget : gI T i = if a' ≤ i ∧ i < a' + kk then turnL (gI l i) else gI l i := by rw [← HTT.out]; exact caseL_get (by rw [HLN.out]; exact HAK.out) (by rw [HLN.out]; exact hlt)
            obtain ⟨x, hx⟩ : ∃ x, gI l i = x := ⟨_, rfl⟩
            obtain ⟨y, hy⟩ : ∃ y, gI T i = y := ⟨_, rfl⟩
            rw [hx] at hci hget
            rw [hy] at hci2 hget
            have HG := Lib.hid hget
            clear hc hc2 hx hy hget
            by_cases hxy : x = y
            · subst hxy
              go_wp2_with fail
              go_roundw
              case rel => exact ⟨i + 1, by omega, by go_num, by first | rfl | trivial⟩
              case measure => simp [intOf]; omega
            · have hin : a' ≤ i ∧ i < a' + kk ∧ y = turnL x := by
                have h := HG.out
                split at h
                · rename_i hc; exact ⟨hc.1, hc.2, h⟩
                · exact absurd h.symm hxy
              obtain ⟨hi1, hi2, rfl⟩ := hin
              obtain ⟨z, hz1, hz2, ho1, ho2⟩ := turn_or (x := x) (fun h => hxy h.symm)
              have hkm : a' + kk ≤ a' + max 1 k.toNat := by have := HKK.out; omega
              obtain ⟨mm, hmm⟩ : ∃ mm : Nat, max 1 k.toNat = mm := ⟨_, rfl⟩
              have hmx : max 1 k = (mm : Int) := by omega
              have hmm9 : mm ≤ 999 := by omega
              rw [hmm] at hkm
              have hwr : IntKind.i64.wrap ((a' : Int) + (mm : Int)) = (a' : Int) + (mm : Int) := IntWalk.i64_in _ (by omega)
              generalize turnL x = y at *
              clear hmm HG HKK HBk HTT
              go_wp2_with fail
              all_goals first
                | exact ⟨⟨i + 1, by omega, by simp, trivial⟩, by simp [intOf]; omega⟩
                | exact ⟨⟨i + 1, by omega, by simp, by first | rfl | trivial⟩, by simp [intOf]; omega⟩
                | (exfalso; omega)
          · obtain rfl : i = q3 := by omega
            go_wp2_with fail
            go_ret
            exact ⟨rfl, HX10.out⟩
end Go.Proofs.Ytmhgndjmcignjaa
