/-
  The walks of the statements on partners: they are each other's, and pairs of one kind do not cross.
-/
import Derived.Test.YtphdomiljipgcaaDyckP
namespace Go.Proofs.Ytphdomiljipgcaa
open Go.RowKit
set_option linter.unusedVariables false

theorem pairs_one : pairsF (chars ⟨#[40, 97, 93]⟩) = [-1, -1, -1] := by decide +kernel
theorem pairs_two : pairsF (chars ⟨#[40, 40, 41, 41]⟩) = [3, 2, 1, 0] := by decide +kernel

/-- What a number of the list of partners says. -/
theorem pairs_says {l : List Int} {i : Nat} (hi : i < l.length) : gI (pairsF l) i = -1 ∨ ∃ k : Nat, gI (pairsF l) i = k ∧ k < l.length ∧ gI (pairsF l) k = i ∧ k ≠ i ∧ othF (gI l i) = gI l k ∧ cloF (gI l i) = decide (k < i) ∧ othF (gI l i) ≠ 0 := by
  rcases (drun_DI l l.length).part i hi with h | ⟨m, h1, h2, h3⟩
  · exact .inl (by rw [pairsF_at hi]; exact h)
  · exact .inr ⟨m, by rw [pairsF_at hi]; exact h1, h2, by rw [pairsF_at h2]; exact h3.1, h3.2⟩
theorem pairs_nest {l : List Int} {i a k b : Nat} (hi : i < k) (hk : k < a) (hb : k < b) (hl : b < l.length) (ha : a < l.length) (h1 : gI (pairsF l) i = a) (h2 : gI (pairsF l) k = b) (he : gI l i = gI l k) : b < a := by
  rw [pairsF_at (by omega)] at h1 h2
  exact (drun_DI l l.length).nest i a k b (by omega) ha hb hl h1 h2 he hi hk

set_option maxHeartbeats 4000000 in
theorem dyckPairs_walk {l : List Int} {A : Option Addr} {n c : Nat} {w : World} (hl : Ints w A n c l) (wl : ∀ x ∈ l, (Lit.int .i64 x).wf = true) :
    Calls Try.prog 4 #[.slice A n c] w fun e w' => e = .returned (.bool true) ∧ Ext w w' := by
  have hcm := hl.nmax
  have hnc := hl.ncap
  have hlen := Lib.hid hl.len
  unfold maxLen at hcm
  have q1 : eqB [-1, -1, -1] [-1, -1, -1] = true := by decide
  go_enter Try.func4, Try.ntmps4
  go_wp2_with fail
  refine (of_ok _ _ (by decide)).mono ?_
  rintro e w1 ⟨A1, c1, rfl, ho1, he1⟩
  go_wp2_with fail
  refine (pairs_ints ho1.ints (chars_wf _) (by decide)).mono ?_
  rintro e w2 ⟨B1, rfl, hb1, he2⟩
  rw [pairs_one] at hb1
  go_wp2_with fail
  refine (equal_ext (hb1.ext (Ext.alloc _ _)) (Blk.ints (l := [-1, -1, -1]) (Blk.new _ _ _) rfl (by decide))).mono ?_
  rintro e w3 ⟨rfl, he3⟩
  have he : Ext w w3 := he1.trans (he2.trans ((Ext.alloc _ _).trans he3))
  clear he1 he2 he3 hb1 ho1
  go_wp2_with fail
  by_cases hn : n ≤ 4096
  · refine (pairs_ints (hl.ext he) wl hn).mono ?_
    rintro e w4 ⟨B, rfl, hb, he4⟩
    have hee := he.trans he4
    clear he he4
    have hnn : ((n : Int) != (n : Int)) = false := by simp
    go_wp2_with fail
    go_loopw [48] (fun i w5 => ∃ j : Nat, j ≤ n ∧ i = .int .i64 j ∧ ∃ q, w5 = w4.drewN q) (fun i _ => n - (intOf i).toNat)
    case atStart => exact ⟨0, by omega, rfl, 0, rfl⟩
    case round =>
      obtain ⟨j, hj, rfl, q, rfl⟩ := hrel
      by_cases hlt : j < n
      · obtain ⟨la, rfl, hlc⟩ := hl.at_ hlt
        obtain ⟨ba, rfl, hbc⟩ := hb.at_ hlt
        have xl := hee.cell (hlc j hlt)
        have xb := hbc j hlt
        rcases pairs_says (l := l) (i := j) (by rw [hlen.out]; exact hlt) with hs | ⟨k, hs, hk, hs2, hne, hs3, hs4, hs5⟩
        · rw [hs] at xb
          clear hs hlc hbc
          go_wp2_with fail
          refine (kind_ok _ _).mono ?_
          rintro e w6 ⟨rfl, rfl⟩
          go_wp2_with fail
          go_roundw
          case rel => exact ⟨j + 1, by omega, by go_num, q, rfl⟩
          case measure => simp [intOf]; omega
        · rw [hlen.out] at hk
          rw [hs] at xb
          have yb := hbc k hk
          rw [hs2] at yb
          have yl := hee.cell (hlc k hk)
          rw [← hs3] at yl
          have z1 : ((j : Int) != (j : Int)) = false := by simp
          have z2 : (othF (gI l j) != othF (gI l j)) = false := by simp
          have z4 : (othF (gI l j) == 0) = false := by simpa using hs5
          clear hs hs2 hs3 hs5 hlc hbc
          go_wp2_with fail
          refine (kind_ok _ _).mono ?_
          rintro e w6 ⟨rfl, rfl⟩
          go_wp2_with fail
          go_roundw
          case rel => exact ⟨j + 1, by omega, by go_num, q, rfl⟩
          case measure => simp [intOf]; omega
      · go_wp2_with fail
        go_ret
        exact ⟨rfl, hee.to_drewN _⟩
  · have hne : ((0 : Int) != (n : Int)) = true := by simp; omega
    refine (pairs_large (by omega) (by unfold maxLen; omega)).mono ?_
    rintro e w4 ⟨rfl, rfl⟩
    go_wp2_with fail
    go_ret
    exact ⟨ret_bool (by simp; omega), he⟩
set_option maxHeartbeats 4000000 in
theorem dyckNests_walk {l : List Int} {A : Option Addr} {n c : Nat} {w : World} (hl : Ints w A n c l) (wl : ∀ x ∈ l, (Lit.int .i64 x).wf = true) :
    Calls Try.prog 3 #[.slice A n c] w fun e w' => e = .returned (.bool true) ∧ Ext w w' := by
  have hcm := hl.nmax
  have hnc := hl.ncap
  have hlen := Lib.hid hl.len
  unfold maxLen at hcm
  have q1 : eqB [3, 2, 1, 0] [3, 2, 1, 0] = true := by decide
  go_enter Try.func3, Try.ntmps3
  go_wp2_with fail
  refine (of_ok _ _ (by decide)).mono ?_
  rintro e w1 ⟨A1, c1, rfl, ho1, he1⟩
  go_wp2_with fail
  refine (pairs_ints ho1.ints (chars_wf _) (by decide)).mono ?_
  rintro e w2 ⟨B1, rfl, hb1, he2⟩
  rw [pairs_two] at hb1
  go_wp2_with fail
  refine (equal_ext (hb1.ext (Ext.alloc _ _)) (Blk.ints (l := [3, 2, 1, 0]) (Blk.new _ _ _) rfl (by decide))).mono ?_
  rintro e w3 ⟨rfl, he3⟩
  have he : Ext w w3 := he1.trans (he2.trans ((Ext.alloc _ _).trans he3))
  clear he1 he2 he3 hb1 ho1
  go_wp2_with fail
  by_cases hn : n ≤ 4096
  · refine (pairs_ints (hl.ext he) wl hn).mono ?_
    rintro e w4 ⟨B, rfl, hb, he4⟩
    have hee := he.trans he4
    clear he he4
    go_wp2_with fail
    go_loopw [36] (fun i w5 => ∃ j : Nat, j ≤ n ∧ i = .int .i64 j ∧ ∃ q, w5 = w4.drewN q) (fun i _ => n - (intOf i).toNat)
    case atStart => exact ⟨0, by omega, rfl, 0, rfl⟩
    case round =>
      obtain ⟨j, hj, rfl, q, rfl⟩ := hrel
      by_cases hlt : j < n
      · obtain ⟨ba, rfl, hbc⟩ := hb.at_ hlt
        obtain ⟨la, rfl, hlc⟩ := hl.at_ hlt
        have xb := hbc j hlt
        have xl := hee.cell (hlc j hlt)
        have HB := Lib.hid hbc
        have HL := Lib.hid hlc
        clear hbc hlc
        have says := Lib.hid (pairs_says (l := l) (i := j) (by rw [hlen.out]; exact hlt))
        go_wp2_with fail
        go_loopw [43] (fun i w5 => ∃ k : Nat, k ≤ n ∧ i = .int .i64 k ∧ ∃ q, w5 = w4.drewN q) (fun i _ => n - (intOf i).toNat)
        case atStart => exact ⟨0, by omega, rfl, q, rfl⟩
        case round =>
          obtain ⟨k, hk, rfl, q, rfl⟩ := hrel
          by_cases hlt2 : k < n
          · have yb := HB.out k hlt2
            have yl := hee.cell (HL.out k hlt2)
            have says2 := Lib.hid (pairs_says (l := l) (i := k) (by rw [hlen.out]; exact hlt2))
            have hall : Hid (¬ (j < k ∧ (k : Int) < gI (pairsF l) j ∧ (k : Int) < gI (pairsF l) k ∧ gI l j = gI l k ∧ gI (pairsF l) j < gI (pairsF l) k)) := by
              rintro ⟨t1, t2, t3, t4, t5⟩
              rcases says.out with h | ⟨a, ha, ha2, _⟩
              · omega
              · rcases says2.out with h | ⟨b, hb, hb2, _⟩
                · omega
                · have := pairs_nest (l := l) (i := j) (a := a) (k := k) (b := b) t1 (by omega) (by omega) hb2 ha2 ha hb t4
                  omega
            by_cases t1 : j < k
            · have d1 : decide (j < k) = true := by simpa using t1
              by_cases t2 : (k : Int) < gI (pairsF l) j
              · have d2 : decide ((k : Int) < gI (pairsF l) j) = true := by simpa using t2
                by_cases t3 : (k : Int) < gI (pairsF l) k
                · have d3 : decide ((k : Int) < gI (pairsF l) k) = true := by simpa using t3
                  by_cases t4 : gI l j = gI l k
                  · have e4 : (gI l j == gI l k) = true := by simpa using t4
                    have t5 : ¬ gI (pairsF l) j < gI (pairsF l) k := fun h => hall.out ⟨t1, t2, t3, t4, h⟩
                    clear t4
                    go_wp2_with fail
                    go_quiet (fail)
                    go_wp2_with fail
                    go_roundw
                    case rel => exact ⟨k + 1, by omega, by go_num, by first | exact ⟨_, rfl⟩ | exact ⟨_, drew2 _ _ _⟩⟩
                    case measure => simp [intOf]; omega
                  · have e4 : (gI l j == gI l k) = false := by simpa using t4
                    clear t4
                    go_wp2_with fail
                    go_quiet (fail)
                    go_wp2_with fail
                    go_roundw
                    case rel => exact ⟨k + 1, by omega, by go_num, by first | exact ⟨_, rfl⟩ | exact ⟨_, drew2 _ _ _⟩⟩
                    case measure => simp [intOf]; omega
                · have d3 : decide ((k : Int) < gI (pairsF l) k) = false := by simpa using t3
                  go_wp2_with fail
                  go_quiet (fail)
                  go_wp2_with fail
                  go_roundw
                  case rel => exact ⟨k + 1, by omega, by go_num, by first | exact ⟨_, rfl⟩ | exact ⟨_, drew2 _ _ _⟩⟩
                  case measure => simp [intOf]; omega
              · have d2 : decide ((k : Int) < gI (pairsF l) j) = false := by simpa using t2
                go_wp2_with fail
                go_quiet (fail)
                go_wp2_with fail
                go_roundw
                case rel => exact ⟨k + 1, by omega, by go_num, by first | exact ⟨_, rfl⟩ | exact ⟨_, drew2 _ _ _⟩⟩
                case measure => simp [intOf]; omega
            · have d1 : decide (j < k) = false := by simpa using t1
              go_wp2_with fail
              go_quiet (fail)
              go_wp2_with fail
              go_roundw
              case rel => exact ⟨k + 1, by omega, by go_num, by first | exact ⟨_, rfl⟩ | exact ⟨_, drew2 _ _ _⟩⟩
              case measure => simp [intOf]; omega
          · go_wp2_with fail
            go_roundw
            case rel => exact ⟨j + 1, by omega, by go_num, q, rfl⟩
            case measure => simp [intOf]; omega
      · go_wp2_with fail
        go_ret
        exact ⟨rfl, hee.to_drewN _⟩
  · refine (pairs_large (by omega) (by unfold maxLen; omega)).mono ?_
    rintro e w4 ⟨rfl, rfl⟩
    go_wp2_with fail
    go_ret
    exact ⟨rfl, he⟩
end Go.Proofs.Ytphdomiljipgcaa
