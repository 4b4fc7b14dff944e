/-
  The walk of seek.Borders.
-/
import Derived.Test.YtbhbakejpgndmaaSeekM
namespace Go.Proofs.Ytbhbakejpgndmaa
open Go.RowKit
set_option linter.unusedVariables false

theorem info_int : (Try.prog.info? 3).map (fun i => (i.zero, i.size, i.bytes)) = some (some (.int .i64 0), 1, 8) := by kernel_rfl

theorem ret_two {u u' v v' : Value} (h1 : u = u') (h2 : v = v') : Ending.returned (.tuple #[u, v]) = .returned (.tuple #[u', v']) := by rw [h1, h2]

set_option maxHeartbeats 1000000 in
theorem borders_ok {l : List Int} {A : Option Addr} {n c : Nat} {w : World} (hl : Ints w A n c l) (hn : n ≤ 4096) :
    Calls Try.prog 57 #[.slice A n c] w fun e w' => ∃ g, e = .returned (.tuple #[.slice (some ⟨g, 0, none⟩) n n, .int .i64 0]) ∧ Blk w' g 3 ((blist l).map (Value.int .i64)).toArray ∧ w.heap.size ≤ g ∧ Ext w w' := by
  obtain ⟨i0, hi, hz0, hz1, hz2⟩ := info_parts info_int
  have hlen := hl.len
  have hmk : ∀ u : World, (Instr.makeSlice 22 (.int .i64 (n : Int)) (.int .i64 (n : Int))).run Try.prog u =
      .ok (.slice (some ⟨u.heap.size, 0, none⟩) n n) (u.alloc (.cells (madeCells #[.int .i64 0] n) 3)) := fun u => by
    have h := run_make (P := Try.prog) u 22 3 i0 (.int .i64 0) Try.underlying22 hi hz0 .i64 .i64 (n : Int) (n : Int) (by omega) (Int.le_refl _) (by rw [hz2]; omega) (by omega)
    simpa [hz1, Value.cells] using h
  have Hl := Lib.hid hlen
  clear hlen
  go_enter Try.func57, Try.ntmps57
  go_wp2_with fail
  go_loopw [5, 6] (fun k i wr => ∃ (kn j : Nat), 1 ≤ j ∧ (j ≤ n ∨ n = 0) ∧ k = .int .i64 kn ∧ i = .int .i64 j ∧ Hid (kn = bl l j) ∧
      Blk wr w.heap.size 3 ((brow l j).map (Value.int .i64)).toArray ∧ Ext w wr) (fun _ i _ => n - (intOf i).toNat)
  case atStart =>
    refine ⟨0, 1, by omega, by omega, rfl, rfl, (bl_one l).symm, ?_, Ext.alloc _ _⟩
    rw [brow_start, Hl.out, ← made_ints]
    exact Blk.new _ _ _
  case round =>
    obtain ⟨kn, j, hj1, hj2, rfl, rfl, hk, hb, he⟩ := hrel
    by_cases hlt : j < n
    · obtain ⟨ad, rfl, hcell⟩ := hl.at_ hlt
      have hnle := hlt
      go_wp2_with fail
      go_loopw [5] (fun k w2 => ∃ kn : Nat, k = .int .i64 kn ∧ Hid (canB l j kn) ∧ kn < j ∧ Blk w2 w.heap.size 3 ((brow l j).map (Value.int .i64)).toArray ∧ Ext w w2) (fun k _ => (intOf k).toNat)
      case atStart => exact ⟨kn, rfl, by rw [hk.out]; exact canB_start hj1, by rw [hk.out]; exact bl_lt hj1, hb, he⟩
      case round =>
        clear hk hb he
        obtain ⟨kn, rfl, hk, hkj, hb, he⟩ := hrel
        have c1 := he.cell (hcell kn (by omega))
        have c2 := he.cell (hcell j (by omega))
        have c3 := (hb.cell j).trans (brow_cell l (by rw [Hl.out]; exact hlt))
        have f3 := hb.frozen j
        by_cases hk0 : 0 < kn
        · by_cases hne : gI l kn = gI l j
          · have e1 : (gI l kn == gI l j) = true := by simpa using hne
            have e2 : (gI l kn != gI l j) = false := by simpa using hne
            have HN := Lib.hid hne
            clear hne
            go_wp2_with fail
            go_quiet (fail)
            go_wp2_with fail
            go_quiet (fail)
            go_wp2_with fail
            go_roundw
            case rel => exact ⟨kn + 1, j + 1, by omega, by omega, by go_num, by go_num, (canB_hit hk.out HN.out).symm, brow_store (hb.drewN _) (by rw [canB_hit hk.out HN.out]; omega), ((he.to_drewN _).setCell (Nat.le_refl _) _)⟩
            case measure => simp [intOf]; omega
          · have e1 : (gI l kn == gI l j) = false := by simpa using hne
            have e2 : (gI l kn != gI l j) = true := by simpa using hne
            have HN := Lib.hid hne
            clear hne
            have c4 := (hb.cell (kn - 1)).trans (brow_cell l (by rw [Hl.out]; omega))
            have e4 : gI (brow l j) (kn - 1) = (bl l kn : Int) := brow_get l hkj (by rw [Hl.out]; omega) hk0
            rw [e4] at c4
            clear e4
            go_wp2_with fail
            go_quiet (fail)
            go_wp2_with fail
            go_roundw
            case rel => exact ⟨bl l kn, rfl, canB_step hk.out hk0 HN.out, by have := @bl_lt l kn hk0; omega, hb, he.to_drewN _⟩
            case measure => have := @bl_lt l kn hk0; simp [intOf]; omega
        · obtain rfl : kn = 0 := by omega
          have hn0 : 0 < n := by omega
          rw [add_nought] at c1
          by_cases hne : gI l 0 = gI l j
          · have e1 : (gI l 0 == gI l j) = true := by simpa using hne
            have HN := Lib.hid hne
            clear hne
            go_wp2_with fail
            go_quiet (fail)
            go_wp2_with fail
            go_quiet (fail)
            go_wp2_with fail
            go_roundw
            case rel => exact ⟨1, j + 1, by omega, by omega, by go_num, by go_num, (canB_hit hk.out HN.out).symm, brow_store (hb.drewN _) (by rw [canB_hit hk.out HN.out]; omega), ((he.to_drewN _).setCell (Nat.le_refl _) _)⟩
            case measure => simp [intOf]; omega
          · have e1 : (gI l 0 == gI l j) = false := by simpa using hne
            have HN := Lib.hid hne
            clear hne
            go_wp2_with fail
            go_quiet (fail)
            go_wp2_with fail
            go_quiet (fail)
            go_wp2_with fail
            go_roundw
            case rel => exact ⟨0, j + 1, by omega, by omega, by go_num, by go_num, (canB_miss hk.out HN.out).symm, brow_store (hb.drewN _) (by rw [canB_miss hk.out HN.out]; omega), ((he.to_drewN _).setCell (Nat.le_refl _) _)⟩
            case measure => simp [intOf]; omega
    · go_wp2_with fail
      go_ret2
      exact ⟨_, rfl, by rw [← brow_end l (show l.length ≤ j by rw [Hl.out]; omega)]; exact hb, Nat.le_refl _, he⟩

set_option maxHeartbeats 400000 in
/-- What is too long is refused. -/
theorem borders_large {A : Option Addr} {n c : Nat} {w : World} (hn : 4096 < n) (hm : n ≤ maxLen) :
    Calls Try.prog 57 #[.slice A n c] w fun e w' => e = .returned (.tuple #[.slice none 0 0, .int .i64 2]) ∧ w = w' := by
  unfold maxLen at hm
  go_enter Try.func57, Try.ntmps57
  go_wp2_with fail
  go_ret2
  exact ⟨rfl, rfl⟩
theorem borders_ints {l : List Int} {A : Option Addr} {n c : Nat} {w : World} (hl : Ints w A n c l) (hn : n ≤ 4096) :
    Calls Try.prog 57 #[.slice A n c] w fun e w' => ∃ B, e = .returned (.tuple #[.slice B n n, .int .i64 0]) ∧ Ints w' B n n (blist l) ∧ Ext w w' :=
  (borders_ok hl hn).mono fun e w' ⟨g, h1, h2, h3, h4⟩ => ⟨_, h1, h2.ints (by rw [blist_len, hl.len]) (by unfold maxLen; omega), h4⟩
end Go.Proofs.Ytbhbakejpgndmaa
