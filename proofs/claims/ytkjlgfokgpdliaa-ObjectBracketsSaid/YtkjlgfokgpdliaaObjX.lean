/-
  The law ObjectBrackets: the walk.
-/
import Derived.Test.YtkjlgfokgpdliaaObjL
namespace Go.Proofs.Ytkjlgfokgpdliaa
open Go.RowKit
set_option linter.unusedVariables false

set_option maxRecDepth 100000 in
set_option maxHeartbeats 8000000 in
theorem objectBrackets_walk {A : Option Addr} {n c : Nat} {l : List Int} {k key : Int} {w : World} (hl : Ints w A n c l) (wl : ∀ x ∈ l, (Lit.int .i64 x).wf = true) :
    Calls Try.prog 5 #[.slice A n c, .int .i64 k, .int .i64 key] w fun e w' => e = .returned (.bool true) ∧ Ext w w' := by
  have hnc := hl.ncap
  have hcm := hl.nmax
  have hlen := Lib.hid hl.len
  have WL := Lib.hid wl
  clear wl
  go_enter Try.func5, Try.ntmps5
  go_wp2_with fail
  refine (of_ok _ _ (by decide)).mono ?_
  rintro e w1 ⟨B, d, rfl, hown, he1⟩
  have hB := hown.ints
  clear hown
  go_wp2_with fail
  refine (objOf_ok (k := 1) (key := 40) hB (chars_wf _) (by decide) (.inr (by decide)) (by decide)).mono ?_
  rintro e w2 ⟨⟨i, b, hf, rfl⟩ | ⟨hf, rfl⟩, he2⟩
  rotate_left
  · exact absurd hf pairs_obj.2
  obtain ⟨rfl, rfl⟩ := found_obj hf
  have he := he1.trans he2
  have hl2 := hl.ext he
  clear hf hB he1 he2 hl
  go_wp2_with fail
  refine (kind_ok key w2).mono ?_
  rintro e w3 ⟨rfl, rfl⟩
  by_cases hz : othF key = 0
  · rw [hz]
    clear hz
    go_wp2_with fail
    go_ret
    exact ⟨rfl, he⟩
  have b1 : (othF key == 0) = false := by simpa using hz
  have HZ := Lib.hid hz
  clear hz
  go_wp2_with fail
  rcases Nat.lt_or_ge 4096 n with h0 | h0
  · refine (objOf_large hnc hcm h0).mono ?_
    rintro e w3 ⟨rfl, rfl⟩
    go_wp2_with fail
    go_ret
    exact ⟨rfl, he⟩
  by_cases hk : k < 0 ∨ (0 < k ∧ (n : Int) ≤ k)
  · refine (objOf_out hnc hcm h0 hk).mono ?_
    rintro e w3 ⟨rfl, rfl⟩
    clear hk
    go_wp2_with fail
    go_ret
    exact ⟨rfl, he⟩
  obtain ⟨kn, rfl⟩ := Int.eq_ofNat_of_zero_le (show 0 ≤ k by omega)
  have hkn : kn = 0 ∨ kn < n := by omega
  clear hk
  refine (objOf_ok (k := kn) hl2 WL.out h0 hkn HZ.out).mono ?_
  rintro e w4 ⟨⟨i, b, hf, rfl⟩ | ⟨hf, rfl⟩, he4⟩
  rotate_left
  · clear hf
    go_wp2_with fail
    go_ret
    exact ⟨rfl, he.trans he4⟩
  have HF := Lib.hid hf
  obtain ⟨f1, f2, f3, f4, f5, f6, -⟩ := hf
  rw [hlen.out] at f2 f6
  have H4 := Lib.hid f4
  have H3 := Lib.hid f3
  clear f3 f4
  have heX := he.trans he4
  have hlX := hl2.ext he4
  clear he he4 hl2
  go_wp2_with fail
  refine (pairs_ints hlX WL.out h0).mono ?_
  rintro e w5 ⟨D, rfl, hD, he5⟩
  have heY := heX.trans he5
  have hlY := hlX.ext he5
  clear heX hlX he5
  obtain ⟨a1, rfl, hc1⟩ := hlY.at_ f2
  obtain ⟨a2, rfl, hc2⟩ := hD.at_ f2
  have d1 := hc2 i f2
  rw [H4.out] at d1
  have HC1 := Lib.hid hc1
  have HC2 := Lib.hid hc2
  have hib : i < b := by
    rcases opairs_says (l := l) (i := i) (by rw [hlen.out]; exact f2) with g | ⟨m, g1, _, _, g4, _⟩
    · have := H4.out; omega
    · have := H4.out; omega
  have s1 : IntKind.i64.wrap ((i : Int) + 1 - 1) = (i : Int) := by rw [show ((i : Int) + 1 - 1) = (i : Int) by omega]; exact IntWalk.i64_in _ (by omega)
  clear hc1 hc2
  go_wp2_with fail
  have s2 : IntKind.i64.wrap (i : Int) = (i : Int) := IntWalk.i64_in _ (by omega)
  go_loopw [17] (fun v wr => ∃ j : Nat, i + 1 ≤ j ∧ j ≤ b ∧ v = .int .i64 j ∧ Ext w5 wr) (fun v _ => b - (intOf v).toNat)
  case atStart => exact ⟨i + 1, by omega, by omega, by go_num, Ext.refl _⟩
  case round =>
    obtain ⟨j, hj1, hj2, rfl, hx⟩ := hrel
    by_cases hlt : j < b
    · have hjn : j < n := by omega
      have e1 := hx.cell (HC1.out j hjn)
      have e2 := hx.cell (HC1.out i f2)
      have e3 := hx.cell (HC1.out b f6)
      have e4 := hx.cell (HC2.out j hjn)
      have hin := Lib.hid (@inside l i j b (by rw [hlen.out]; exact f6) (by omega) hlt H4.out)
      have hmx : Hid (gI l j = gI l i → j ≤ kn → gI (pairsF l) j < kn) := Lib.hid (fun h1 h2 => by
        obtain ⟨_, _, g3, _, _, _, g7⟩ := HF.out
        exact g7 j (by omega) h2 (by rw [hlen.out]; exact hjn) (by rw [h1, g3]))
      clear d1
      by_cases hxy : gI l j = gI l i
      · obtain ⟨r1, r2⟩ := hin.out (.inl hxy)
        have q1 : (gI l j == gI l i) = true := by simpa using hxy
        have hm : Hid (j ≤ kn → gI (pairsF l) j < kn) := Lib.hid (hmx.out hxy)
        clear hxy
        have t1 : decide (gI (pairsF l) j < (i : Int) + 1) = false := by simp; omega
        have t2 : decide ((b : Int) ≤ gI (pairsF l) j) = false := by simp; omega
        clear r1 r2
        by_cases hg : (j : Int) < gI (pairsF l) j
        · have u1 : decide ((j : Int) < gI (pairsF l) j) = true := by simpa using hg
          by_cases hk : j ≤ kn
          · have hm2 := hm.out hk
            have u2 : decide ((j : Int) ≤ kn) = true := by simp; omega
            have u3 : decide ((kn : Int) ≤ gI (pairsF l) j) = false := by simp; omega
            clear hm2
            go_wp2_with fail
            go_quiet (fail)
            go_wp2_with fail
            go_quiet (fail)
            go_wp2_with fail
            go_roundw
            case rel => exact ⟨j + 1, by omega, by omega, by go_num, by first | exact hx.to_drewN _ | exact (hx.to_drewN _).to_drewN _⟩
            case measure => simp [intOf]; omega
          · have u2 : decide ((j : Int) ≤ kn) = false := by simp; omega
            have u3 : decide (j ≤ kn) = false := by simp; omega
            clear hk
            go_wp2_with fail
            go_quiet (fail)
            go_wp2_with fail
            go_quiet (fail)
            go_wp2_with fail
            go_roundw
            case rel => exact ⟨j + 1, by omega, by omega, by go_num, by first | exact hx.to_drewN _ | exact (hx.to_drewN _).to_drewN _⟩
            case measure => simp [intOf]; omega
        · have u1 : decide ((j : Int) < gI (pairsF l) j) = false := by simpa using hg
          clear hg
          go_wp2_with fail
          go_quiet (fail)
          go_wp2_with fail
          go_quiet (fail)
          go_wp2_with fail
          go_roundw
          case rel => exact ⟨j + 1, by omega, by omega, by go_num, by first | exact hx.to_drewN _ | exact (hx.to_drewN _).to_drewN _⟩
          case measure => simp [intOf]; omega
      · have q1 : (gI l j == gI l i) = false := by simpa using hxy
        clear hxy
        by_cases hxz : gI l j = gI l b
        · obtain ⟨r1, r2⟩ := hin.out (.inr hxz)
          have q2 : (gI l j == gI l b) = true := by simpa using hxz
          clear hxz
          have t1 : decide (gI (pairsF l) j < (i : Int) + 1) = false := by simp; omega
          have t2 : decide ((b : Int) ≤ gI (pairsF l) j) = false := by simp; omega
          clear r1 r2
          by_cases hg : (j : Int) < gI (pairsF l) j
          · have u1 : decide ((j : Int) < gI (pairsF l) j) = true := by simpa using hg
            go_wp2_with fail
            go_quiet (fail)
            go_wp2_with fail
            go_quiet (fail)
            go_wp2_with fail
            go_roundw
            case rel => exact ⟨j + 1, by omega, by omega, by go_num, by first | exact hx.to_drewN _ | exact (hx.to_drewN _).to_drewN _⟩
            case measure => simp [intOf]; omega
          · have u1 : decide ((j : Int) < gI (pairsF l) j) = false := by simpa using hg
            clear hg
            go_wp2_with fail
            go_quiet (fail)
            go_wp2_with fail
            go_quiet (fail)
            go_wp2_with fail
            go_roundw
            case rel => exact ⟨j + 1, by omega, by omega, by go_num, by first | exact hx.to_drewN _ | exact (hx.to_drewN _).to_drewN _⟩
            case measure => simp [intOf]; omega
        · have q2 : (gI l j == gI l b) = false := by simpa using hxz
          clear hxz
          by_cases hg : (j : Int) < gI (pairsF l) j
          · have u1 : decide ((j : Int) < gI (pairsF l) j) = true := by simpa using hg
            go_wp2_with fail
            go_quiet (fail)
            go_wp2_with fail
            go_quiet (fail)
            go_wp2_with fail
            go_roundw
            case rel => exact ⟨j + 1, by omega, by omega, by go_num, by first | exact hx.to_drewN _ | exact (hx.to_drewN _).to_drewN _⟩
            case measure => simp [intOf]; omega
          · have u1 : decide ((j : Int) < gI (pairsF l) j) = false := by simpa using hg
            clear hg
            go_wp2_with fail
            go_quiet (fail)
            go_wp2_with fail
            go_quiet (fail)
            go_wp2_with fail
            go_roundw
            case rel => exact ⟨j + 1, by omega, by omega, by go_num, by first | exact hx.to_drewN _ | exact (hx.to_drewN _).to_drewN _⟩
            case measure => simp [intOf]; omega
    · go_wp2_with fail
      go_ret
      exact ⟨rfl, heY.trans hx⟩
end Go.Proofs.Ytkjlgfokgpdliaa
