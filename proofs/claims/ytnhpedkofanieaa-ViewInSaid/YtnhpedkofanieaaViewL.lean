/-
  The law ViewIn: the walk.
-/
import Derived.Test.YtnhpedkofanieaaViewM
import Derived.IntWalk
namespace Go.Proofs.Ytnhpedkofanieaa
open Go.RowKit
set_option linter.unusedVariables false

theorem badS_eq {n at_ off width : Int} : ¬ badS n at_ off width ↔ (0 ≤ n ∧ n ≤ 200 ∧ 0 ≤ at_ ∧ at_ ≤ n ∧ 0 ≤ off ∧ off ≤ 200 ∧ 2 ≤ width ∧ width ≤ 120) := by unfold badS; omega
theorem scK_facts {n at_ off width : Int} (h : ¬ badS n at_ off width) : ∃ k : Nat, scK at_ off width = k ∧ ¬ badS n at_ k width ∧ scK at_ k width = k ∧ (k : Int) ≤ at_ ∧ at_ < k + width ∧ (k = off ↔ (off ≤ at_ ∧ at_ < off + width)) ∧ (k = off ∨ (k = at_ ∧ off > at_) ∨ (k = at_ - width + 1 ∧ off < k)) := by
  rw [badS_eq] at h
  obtain ⟨h1, h2, h3, h4, h5, h6, h7, h8⟩ := h
  have e : 0 ≤ scK at_ off width ∧ scK at_ off width ≤ 200 := by unfold scK; (repeat' split) <;> omega
  obtain ⟨k, hk⟩ := Int.eq_ofNat_of_zero_le e.1
  refine ⟨k, hk, badS_eq.2 ⟨h1, h2, h3, h4, by omega, by omega, h7, h8⟩, ?_, ?_, ?_, ?_, ?_⟩ <;> rw [← hk] <;> unfold scK <;> (repeat' split) <;> omega

theorem cell_quiet (c : Int) (w : World) (n : Nat) : Calls Try.prog 11 #[.int .i64 c] (w.drewN n) fun e w'' => e = .returned (.int .i64 (cellF c)) ∧ ∃ m, w'' = w.drewN m :=
  (cell_ok c _).mono fun _ _ ⟨h1, h2⟩ => ⟨h1, n, h2⟩

set_option maxRecDepth 100000 in
set_option maxHeartbeats 8000000 in
theorem viewIn_walk {A : Option Addr} {n c : Nat} {l : List Int} {at_ off width : Int} {w : World} (hl : Ints w A n c l) :
    Calls Try.prog 3 #[.slice A n c, .int .i64 at_, .int .i64 off, .int .i64 width] w fun e w' => e = .returned (.bool true) ∧ Ext w w' := by
  have hnc := hl.ncap
  have hcm := hl.nmax
  unfold maxLen at hcm
  have hlen := Lib.hid hl.len
  have hd : Hid (¬ badS 9 9 0 4) := Lib.hid (by decide)
  go_enter Try.func3, Try.ntmps3
  go_wp2_with fail
  refine (scroll_good hd.out).mono ?_
  rintro e w1 ⟨rfl, rfl⟩
  rw [show scK 9 0 4 = 6 by decide]
  go_wp2_with fail
  rcases Decidable.em (badS n at_ off width) with hb | hb
  · refine (scroll_bad hb).mono ?_
    rintro e w1 ⟨rfl, rfl⟩
    clear hb
    go_wp2_with fail
    go_ret
    exact ⟨rfl, Ext.refl _⟩
  · refine (scroll_good hb).mono ?_
    rintro e w1 ⟨rfl, rfl⟩
    obtain ⟨k, ek, hb2, hk2, g1, g2, g3, g4⟩ := scK_facts hb
    rw [ek]
    have hbb := badS_eq.1 hb
    obtain ⟨i1, i2, i3, i4, i5, i6, i7, i8⟩ := hbb
    have HB2 := Lib.hid hb2
    have HK2 := Lib.hid hk2
    have HG3 := Lib.hid g3
    have HG4 := Lib.hid g4
    obtain ⟨wd, rfl⟩ := Int.eq_ofNat_of_zero_le (show 0 ≤ width by omega)
    clear hb ek hb2 hk2 g3 g4
    go_wp2_with fail
    refine (row_ok hl HB2.out HK2.out).mono ?_
    rintro e w1 ⟨B, d, rfl, hown, he⟩
    have hB : Ints w1 B wd d (rowL l k wd) := hown.ints
    have hbn := hB.ncap
    have hbm := hB.nmax
    unfold maxLen at hbm
    clear hown
    have HC : Hid (((k : Int) == off) = true ∧ off ≤ at_ ∧ at_ < off + wd ∨ ((k : Int) == off) = false ∧ ((k : Int) == at_) = true ∧ at_ < off ∨
        ((k : Int) == off) = false ∧ ((k : Int) == at_) = false ∧ ((k : Int) == at_ - wd + 1) = true ∧ off ≤ at_ ∧ off + wd ≤ at_ ∧ off < k) := by
      have h3 := HG3.out
      rcases HG4.out with h | ⟨h, h'⟩ | ⟨h, h'⟩
      · exact .inl ⟨by simpa using h, by omega, by omega⟩
      · exact .inr (.inl ⟨by simp; omega, by simpa using h, by omega⟩)
      · exact .inr (.inr ⟨by simp; omega, by simp; omega, by simpa using h, by omega, by omega, by omega⟩)
    clear HG3 HG4
    have hgood : Hid (∀ q, q < wd → goodC (gI (rowL l k wd) q)) := Lib.hid (fun q hq => by rw [rowL_at _ _ hq]; exact cellAt_good _ _ _)
    have hck := check_ok (at_ := at_ - k) (hB.ext (Ext.alloc w1 (Obj.cells #[Value.slice B wd d, Value.int IntKind.i64 (at_ - k)] 27))) hgood.out (by omega) (by omega) (by omega) (by omega)
    have HCK := Lib.hid hck
    clear hck
    rcases HC.out with ⟨b1, b2, b3⟩ | ⟨b1, b2, b3⟩ | ⟨b1, b2, b3, b4, b5, b6⟩
    all_goals
      clear HC
      go_wp2_with fail
      refine HCK.out.mono ?_
      rintro e w2 ⟨rfl, he2⟩
      have hcell := (Blk.new w1 27 #[Value.slice B wd d, Value.int IntKind.i64 (at_ - k)]).ext he2
      have hB2 := (hB.ext (Ext.alloc _ _)).ext he2
      have hl2 := ((hl.ext he).ext (Ext.alloc _ _)).ext he2
      have heW := (he.to_alloc _).trans he2
      have d1 := hcell.cell 0
      have d2 := hcell.cell 1
      simp only [List.getElem?_toArray, List.getElem?_cons_zero, List.getElem?_cons_succ] at d1 d2
      clear HCK he2 hcell hB hl he
      go_wp2_with fail
      refine (scroll_good HB2.out).mono ?_
      rintro e w3 ⟨rfl, rfl⟩
      rw [HK2.out]
      have hn2 := hl2.ncap
      go_wp2_with fail
      go_loopw [104] (fun i wr => ∃ j : Nat, j ≤ n ∧ i = .int .i64 j ∧ Ext w3 wr) (fun i _ => n - (intOf i).toNat)
      case atStart => exact ⟨0, by omega, rfl, Ext.refl _⟩
      case round =>
        obtain ⟨j, hj, rfl, hx⟩ := hrel
        by_cases hlt : j < n
        · obtain ⟨a1, rfl, hc1⟩ := hl2.at_ hlt
          have c1 := hx.cell (hc1 j hlt)
          have dx := hx.cell d1
          have hy := heW.trans hx
          clear hc1 d1 d2
          by_cases hw : k ≤ j ∧ j < k + wd
          · obtain ⟨hw1, hw2⟩ := hw
            obtain ⟨a2, rfl, hc2⟩ := hB2.at_ (k := j - k) (by omega)
            have c2 := hx.cell (hc2 (j - k) (by omega))
            rw [rowL_at _ _ (by omega)] at c2
            unfold cellAt at c2
            rw [if_pos (by rw [hlen.out]; omega), show ((k : Int) + (j - k : Nat)).toNat = j by omega] at c2
            have s1 : IntKind.i64.wrap ((k : Int) + wd) = (k : Int) + wd := IntWalk.i64_in _ (by omega)
            have s2 : IntKind.i64.wrap ((j : Int) - k) = ((j - k : Nat) : Int) := by rw [show ((j : Int) - k) = ((j - k : Nat) : Int) by omega]; exact IntWalk.i64_in _ (by omega)
            have s3 : ((j - k : Nat) : Int) < (wd : Int) := by omega
            have p1 : decide ((k : Int) ≤ j) = true := by simp; omega
            have p2 : decide ((j : Int) < k + wd) = true := by simp; omega
            have b0 : (cellF (gI l j) != cellF (gI l j)) = false := by simp
            clear hc2
            go_wp2_with fail
            go_quiet ((go_at_call 11; exact cell_quiet _ _ _))
            go_wp2_with fail
            go_roundw
            case rel => exact ⟨j + 1, by omega, by go_num, hx.to_drewN _⟩
            case measure => simp [intOf]; omega
          · rcases Nat.lt_or_ge j k with h1 | h1
            · have p1 : decide ((k : Int) ≤ j) = false := by simp; omega
              have p3 : decide (k ≤ j) = false := by simp; omega
              clear hw
              go_wp2_with fail
              go_quiet (fail)
              go_wp2_with fail
              go_roundw
              case rel => exact ⟨j + 1, by omega, by go_num, hx.to_drewN _⟩
              case measure => simp [intOf]; omega
            · have p2 : decide ((j : Int) < k + wd) = false := by simp; omega
              have p3 : decide (j < k + wd) = false := by simp; omega
              have s1 : IntKind.i64.wrap ((k : Int) + wd) = (k : Int) + wd := IntWalk.i64_in _ (by omega)
              clear hw
              go_wp2_with fail
              go_quiet (fail)
              go_wp2_with fail
              go_roundw
              case rel => exact ⟨j + 1, by omega, by go_num, hx.to_drewN _⟩
              case measure => simp [intOf]; omega
        · obtain rfl : j = n := by omega
          have b0 : ((k : Int) == k) = true := by simp
          go_wp2_with fail
          all_goals
            go_ret
            exact ⟨rfl, heW.trans hx⟩
end Go.Proofs.Ytnhpedkofanieaa
