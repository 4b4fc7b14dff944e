/-
  The walks of near.Far and of the statements' far.
-/
import Derived.Test.YtdkjkcegchohfaaNearM
import Derived.Test.YtdkjkcegchohfaaLib
namespace Go.Proofs.Ytdkjkcegchohfaa
open Go.RowKit
set_option linter.unusedVariables false
set_option linter.unusedSimpArgs false

/-- How far two lists are. -/
def dist (a b : List Int) : Nat := lev a.reverse b.reverse
theorem dist_dt {a b : List Int} : dt a b a.length b.length = dist a b := by unfold dt dist; simp

set_option maxRecDepth 20000 in
set_option maxHeartbeats 4000000 in
theorem nearFar_ok {a b : List Int} {A B : Option Addr} {n m c d : Nat} {w : World} (ha : Ints w A n c a) (hb : Ints w B m d b) (hn : n ≤ 200) (hm : m ≤ 200) :
    Calls Try.prog 46 #[.slice A n c, .slice B m d] w fun e w' => e = .returned (.tuple #[.int .i64 (dist a b), .int .i64 0]) ∧ Ext w w' := by
  obtain ⟨i0, hi, hz0, hz1, hz2⟩ := info_parts info_int
  have hal := Lib.hid ha.len
  have hbl := Lib.hid hb.len
  have hmk : ∀ u : World, (Instr.makeSlice 23 (.int .i64 ((m : Int) + 1)) (.int .i64 ((m : Int) + 1))).run Try.prog u =
      .ok (.slice (some ⟨u.heap.size, 0, none⟩) (m + 1) (m + 1)) (u.alloc (.cells (madeCells #[.int .i64 0] (m + 1)) 3)) := fun u => by
    have h := run_make (P := Try.prog) u 23 3 i0 (.int .i64 0) Try.underlying23 hi hz0 .i64 .i64 ((m : Int) + 1) ((m : Int) + 1) (by omega) (Int.le_refl _) (by rw [hz2]; omega) (by omega)
    have e : ((m : Int) + 1).toNat = m + 1 := by omega
    rw [e] at h
    simpa [hz1, Value.cells] using h
  go_enter Try.func46, Try.ntmps46
  go_wp2_with fail
  go_loopw [28] (fun i wr => ∃ k : Nat, k ≤ m + 1 ∧ i = .int .i64 k ∧ Blk wr w.heap.size 3 ((drow0 b k).map (Value.int .i64)).toArray ∧ Ext w wr) (fun i _ => m + 1 - (intOf i).toNat)
  case atStart =>
    refine ⟨0, by omega, rfl, ?_, Ext.alloc _ _⟩
    rw [drow0_start, hbl.out, ← made_ints]
    exact Blk.new _ _ _
  case round =>
    obtain ⟨k, hk, rfl, hbk, he⟩ := hrel
    by_cases hlt : k < m + 1
    · have c1 := blk_cell hbk (k := k) (by simp [drow0, hbl.out]; omega)
      have f1 := hbk.frozen k
      go_wp2_with fail
      go_roundw
      case rel => exact ⟨k + 1, by omega, by go_num, by rw [← drow0_set]; exact blk_store hbk k k, he.setCell (Nat.le_refl _) _⟩
      case measure => simp [intOf]; omega
    · have hrow : Blk wr w.heap.size 3 ((drowW a b 0).map (Value.int .i64)).toArray := by
        rw [← drow0_end a b (k := k) (by rw [hbl.out]; omega)]; exact hbk
      clear hbk
      go_wp2_with fail
      go_loopw [38] (fun i w2 => ∃ k : Nat, k ≤ n ∧ i = .int .i64 k ∧ Blk w2 w.heap.size 3 ((drowW a b k).map (Value.int .i64)).toArray ∧ Ext w w2) (fun i _ => n - (intOf i).toNat)
      case atStart => exact ⟨0, by omega, rfl, hrow, he⟩
      case round =>
        clear hrow he
        obtain ⟨i, hi', rfl, hrow, he⟩ := hrel
        by_cases hlt2 : i < n
        · obtain ⟨aa, rfl, hac⟩ := ha.at_ hlt2
          have xa := he.cell (hac i hlt2)
          have x0 := blk_cell hrow (k := 0) (by rw [drowW_len]; omega)
          rw [drowW_at a b (by omega), dt_zero' a b i (by rw [hal.out]; omega)] at x0
          have f0 := hrow.frozen 0
          have hrow2 : Blk (wr.setCell ⟨w.heap.size, 0, none⟩ (.int .i64 ((i : Int) + 1))) w.heap.size 3 ((drow a b i 0).map (Value.int .i64)).toArray := by
            rw [← drowW_set a b (by rw [hal.out]; exact hlt2)]; exact blk_store hrow 0 _
          have he2 := he.setCell (p := ⟨w.heap.size, 0, none⟩) (Nat.le_refl _) (.int .i64 ((i : Int) + 1))
          clear hrow
          go_wp2_with fail
          go_loopw [10, 52] (fun co jj w3 => ∃ j : Nat, j ≤ m ∧ jj = .int .i64 j ∧ co = .int .i64 (dt a b i j) ∧ Blk w3 w.heap.size 3 ((drow a b i j).map (Value.int .i64)).toArray ∧ Ext w w3) (fun _ jj _ => m - (intOf jj).toNat)
          case atStart => exact ⟨0, by omega, rfl, by rw [dt_zero' a b i (by rw [hal.out]; omega)], hrow2, he2⟩
          case round =>
            clear hrow2 he2 xa x0 f0 he
            obtain ⟨j, hj, rfl, rfl, hr3, he3⟩ := hrel
            by_cases hlt3 : j < m
            · obtain ⟨ba, rfl, hbc⟩ := hb.at_ hlt3
              have xb := he3.cell (hbc j hlt3)
              have y0 := blk_cell hr3 (k := j) (by rw [drow_len, hbl.out]; omega)
              have y1 := blk_cell hr3 (k := j + 1) (by rw [drow_len, hbl.out]; omega)
              rw [drow_at a b (by rw [hbl.out]; omega), if_pos (Nat.le_refl _)] at y0
              rw [drow_at a b (by rw [hbl.out]; omega), if_neg (by omega)] at y1
              have f1 := hr3.frozen (j + 1)
              have b1 := dt_le a b i j
              have b2 := dt_le a b i (j + 1)
              have b3 := dt_le a b (i + 1) j
              have hst : ∀ u : Int, u = (dt a b (i + 1) (j + 1) : Int) → Blk (wr.setCell ⟨w.heap.size, j + 1, none⟩ (.int .i64 u)) w.heap.size 3 ((drow a b i (j + 1)).map (Value.int .i64)).toArray := fun u hu => by
                rw [← drow_set, ← hu]; exact blk_store hr3 _ _
              have HS := Lib.hid hst
              have HD : Hid (dt a b (i + 1) (j + 1) = min (dt a b i j + if gI a i = gI b j then 0 else 1) (min (dt a b i (j + 1) + 1) (dt a b (i + 1) j + 1))) := dt_succ (by rw [hal.out]; exact hlt2) (by rw [hbl.out]; exact hlt3)
              clear hst hr3
              by_cases hxy : gI a i = gI b j
              · have e1 : (gI a i != gI b j) = false := by simpa using hxy
                have HX := Lib.hid hxy
                clear hxy
                go_wp2_with fail
                refine ⟨⟨j + 1, by omega, by go_num, rfl, HS.out _ ?_, he3.setCell (Nat.le_refl _) _⟩, by simp [intOf]; omega⟩
                rw [HD.out, if_pos HX.out]
                split <;> split <;> omega
              · have e1 : (gI a i != gI b j) = true := by simpa using hxy
                have HX := Lib.hid hxy
                clear hxy
                go_wp2_with fail
                refine ⟨⟨j + 1, by omega, by go_num, rfl, HS.out _ ?_, he3.setCell (Nat.le_refl _) _⟩, by simp [intOf]; omega⟩
                rw [HD.out, if_neg HX.out]
                split <;> split <;> omega
            · obtain rfl : j = m := by omega
              go_wp2_with fail
              go_roundw
              case rel => exact ⟨i + 1, by omega, by go_num, by rw [← drow_end, hbl.out]; exact hr3, he3⟩
              case measure => simp [intOf]; omega
        · obtain rfl : i = n := by omega
          have xe := blk_cell hrow (k := m) (by rw [drowW_len, hbl.out]; omega)
          rw [drowW_at a b (by rw [hbl.out]; exact Nat.le_refl _)] at xe
          go_wp2_with fail
          go_ret2
          exact ⟨by rw [← dist_dt, hal.out, hbl.out]; rfl, he⟩
set_option maxRecDepth 20000 in
set_option maxHeartbeats 400000 in
theorem nearFar_large {A B : Option Addr} {n m c d : Nat} {w : World} (hn : n ≤ maxLen) (hm : m ≤ maxLen) (h : 200 < n ∨ 200 < m) :
    Calls Try.prog 46 #[.slice A n c, .slice B m d] w fun e w' => e = .returned (.tuple #[.int .i64 0, .int .i64 2]) ∧ w = w' := by
  unfold maxLen at hn hm
  by_cases h1 : 200 < n
  · clear h
    go_enter Try.func46, Try.ntmps46
    go_wp2_with fail
    go_ret2
    exact ⟨rfl, rfl⟩
  · have h2 : 200 < m := by omega
    clear h
    go_enter Try.func46, Try.ntmps46
    go_wp2_with fail
    go_ret2
    exact ⟨rfl, rfl⟩

/-- What the statements' far answers. -/
def farV (a b : List Int) : Int := if a.length ≤ 200 ∧ b.length ≤ 200 then dist a b else -1
theorem farV_le (a b : List Int) : -1 ≤ farV a b ∧ farV a b ≤ 200 := by
  unfold farV
  split
  · rename_i h
    have := lev_high a.reverse b.reverse
    unfold dist
    simp at this
    omega
  · omega

theorem farV_comm (a b : List Int) : farV a b = farV b a := by
  unfold farV dist
  rw [lev_comm]
  by_cases h1 : a.length ≤ 200 <;> by_cases h2 : b.length ≤ 200 <;> simp [h1, h2]
theorem farV_pos {a b : List Int} (h : 0 ≤ farV a b) : farV a b = dist a b ∧ a.length ≤ 200 ∧ b.length ≤ 200 := by
  unfold farV at h ⊢
  split
  · rename_i h'; exact ⟨rfl, h'⟩
  · rename_i h'; rw [if_neg h'] at h; omega
theorem farV_zero {a b : List Int} (h : 0 ≤ farV a b) : (farV a b == 0) = eqB a b := by
  rw [(farV_pos h).1, Bool.eq_iff_iff, eqB_true]
  simp [dist, lev_zero]
theorem farV_tri {a b c : List Int} (h1 : 0 ≤ farV a b) (h2 : 0 ≤ farV b c) (h3 : 0 ≤ farV a c) : farV a c ≤ farV a b + farV b c := by
  rw [(farV_pos h1).1, (farV_pos h2).1, (farV_pos h3).1]
  have := lev_tri a.reverse b.reverse c.reverse
  unfold dist
  omega
theorem farV_high {a b : List Int} (h : 0 ≤ farV a b) : farV a b ≤ max a.length b.length := by
  rw [(farV_pos h).1]
  have := lev_high a.reverse b.reverse
  simp at this
  unfold dist
  omega
theorem farV_low {a b : List Int} (h : 0 ≤ farV a b) : (a.length : Int) - b.length ≤ farV a b ∧ (b.length : Int) - a.length ≤ farV a b := by
  rw [(farV_pos h).1]
  have := lev_low a.reverse b.reverse
  simp at this
  unfold dist
  omega

set_option maxRecDepth 20000 in
set_option maxHeartbeats 400000 in
theorem far_ok {a b : List Int} {A B : Option Addr} {n m c d : Nat} {w : World} (ha : Ints w A n c a) (hb : Ints w B m d b) :
    Calls Try.prog 20 #[.slice A n c, .slice B m d] w fun e w' => e = .returned (.int .i64 (farV a b)) ∧ Ext w w' := by
  by_cases hs : n ≤ 200 ∧ m ≤ 200
  · have hv : Hid (farV a b = dist a b) := by unfold farV; exact if_pos ⟨by rw [ha.len]; exact hs.1, by rw [hb.len]; exact hs.2⟩
    go_enter Try.func20, Try.ntmps20
    go_wp2_with fail
    refine (nearFar_ok ha hb hs.1 hs.2).mono ?_
    rintro e w1 ⟨rfl, he⟩
    go_wp2_with fail
    go_ret
    exact ⟨ret_int hv.out.symm, he⟩
  · have hv : Hid (farV a b = -1) := by unfold farV; exact if_neg (fun h => hs ⟨by rw [← ha.len]; exact h.1, by rw [← hb.len]; exact h.2⟩)
    have h1 := Nat.le_trans ha.ncap ha.nmax
    have h2 := Nat.le_trans hb.ncap hb.nmax
    go_enter Try.func20, Try.ntmps20
    go_wp2_with fail
    refine (nearFar_large h1 h2 (by omega)).mono ?_
    rintro e w1 ⟨rfl, rfl⟩
    go_wp2_with fail
    go_ret
    exact ⟨ret_int hv.out.symm, Ext.refl _⟩
end Go.Proofs.Ytdkjkcegchohfaa
