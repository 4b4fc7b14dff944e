/-
  The walks of reg.number, reg.copied.
-/
import Derived.Test.YtmhgndjmcignjaaRegM
namespace Go.Proofs.Ytmhgndjmcignjaa
open Go.RowKit
set_option linter.unusedVariables false
set_option linter.unusedSimpArgs false

/-- The number of a register, and whether what comes is put behind. -/
def regNo (k : Int) : Option (Nat × Bool) :=
  if k = 0 then some (0, false) else if 97 ≤ k ∧ k ≤ 122 then some ((k - 96).toNat, false) else if 65 ≤ k ∧ k ≤ 90 then some ((k - 64).toNat, true) else none
theorem regNo_lt {k : Int} {i : Nat} {m : Bool} (h : regNo k = some (i, m)) : i < 27 := by
  unfold regNo at h
  split at h
  · injection h with h; injection h with h _; omega
  · split at h
    · injection h with h; injection h with h _; omega
    · split at h
      · injection h with h; injection h with h _; omega
      · cases h
/-- A register's name in small letters. -/
theorem regNo_none {k : Int} (h : regNo k = none) : k ≠ 0 ∧ ¬ (97 ≤ k ∧ k ≤ 122) ∧ ¬ (65 ≤ k ∧ k ≤ 90) := by
  unfold regNo at h
  refine ⟨fun h0 => ?_, fun h1 => ?_, fun h2 => ?_⟩
  · rw [if_pos h0] at h; cases h
  · rw [if_neg (by omega), if_pos h1] at h; cases h
  · rw [if_neg (by omega), if_neg (by omega), if_pos h2] at h; cases h

theorem ret_num3 {a b : Int} {x y : Value} (h : a = b) : Ending.returned (.tuple #[.int .i64 a, x, y]) = .returned (.tuple #[.int .i64 b, x, y]) := by rw [h]
set_option maxRecDepth 20000 in
set_option maxHeartbeats 4000000 in
theorem number_ok {k : Int} {i : Nat} {m : Bool} (w : World) (h : regNo k = some (i, m)) :
    Calls Try.prog 67 #[.int .i64 k] w fun e w' => e = .returned (.tuple #[.int .i64 i, .bool m, .bool true]) ∧ w = w' := by
  unfold regNo at h
  by_cases h0 : k = 0
  · subst h0
    rw [if_pos rfl] at h
    injection h with h
    injection h with h1 h2
    subst h1; subst h2
    go_enter Try.func67, Try.ntmps67
    go_wp2_with fail
    go_ret3
    exact ⟨rfl, rfl⟩
  rw [if_neg h0] at h
  have e0 : (k == 0) = false := by simpa using h0
  by_cases h1 : 97 ≤ k ∧ k ≤ 122
  · rw [if_pos h1] at h
    injection h with h
    injection h with h2 h3
    obtain ⟨h4, h5⟩ := h1
    obtain rfl : k = (i : Int) + 96 := by omega
    subst h3
    have hi : 1 ≤ i ∧ i ≤ 26 := by omega
    clear h2 h0
    obtain ⟨hi1, hi2⟩ := hi
    go_enter Try.func67, Try.ntmps67
    go_wp2_with fail
    go_ret3
    exact ⟨ret_num3 (by omega), rfl⟩
  rw [if_neg h1] at h
  by_cases h2 : 65 ≤ k ∧ k ≤ 90
  · rw [if_pos h2] at h
    injection h with h
    injection h with h3 h4
    obtain ⟨h5, h6⟩ := h2
    obtain rfl : k = (i : Int) + 64 := by omega
    subst h4
    have hi : 1 ≤ i ∧ i ≤ 26 := by omega
    have h7 : decide (97 ≤ (i : Int) + 64) = false := by simp; omega
    clear h3 h0 h1
    obtain ⟨hi1, hi2⟩ := hi
    go_enter Try.func67, Try.ntmps67
    go_wp2_with fail
    go_ret3
    exact ⟨ret_num3 (by omega), rfl⟩
  · rw [if_neg h2] at h; cases h
set_option maxRecDepth 20000 in
set_option maxHeartbeats 4000000 in
theorem number_no {k : Int} (w : World) (h : regNo k = none) :
    Calls Try.prog 67 #[.int .i64 k] w fun e w' => e = .returned (.tuple #[.int .i64 0, .bool false, .bool false]) ∧ w = w' := by
  obtain ⟨h0, h1, h2⟩ := regNo_none h
  have e0 : (k == 0) = false := by simpa using h0
  have h3 : k < 65 ∨ (90 < k ∧ k < 97) ∨ 122 < k := by omega
  clear h h0 h1 h2
  rcases h3 with h3 | ⟨h3, h4⟩ | h3
  all_goals
    go_enter Try.func67, Try.ntmps67
    go_wp2_with fail
    go_ret3
    exact ⟨rfl, rfl⟩

set_option maxRecDepth 20000 in
set_option maxHeartbeats 4000000 in
theorem copied_ok {cs : Array Value} {rs : Nat → List Int} {w : World} (h : Regs w cs rs) :
    Calls Try.prog 69 #[.agg cs] w fun e w' => ∃ ds, e = .returned (.agg ds) ∧ RegsO w' w.heap.size ds rs ∧ Apart ds 27 ∧ Ext w w' := by
  have H := Lib.hid h
  have hcs := h.1
  clear h
  obtain ⟨z, hz⟩ : ∃ z : Array Value, noRegs = z := ⟨_, rfl⟩
  have HZ : Hid (noRegs = z) := Lib.hid hz
  have hb1 : Hid (Blk ((w.alloc (.cells cs 30)).alloc (.cells noRegs 30)) w.heap.size 30 cs) := Lib.hid ((Blk.new w _ cs).ext (Ext.alloc _ _))
  have hb2 : Hid (Blk ((w.alloc (.cells cs 30)).alloc (.cells noRegs 30)) (w.heap.size + 1) 30 noRegs) := Lib.hid (by
    have := Blk.new (w.alloc (.cells cs 30)) 30 noRegs
    rwa [World.size_alloc] at this)
  have hE : Hid (Ext w ((w.alloc (.cells cs 30)).alloc (.cells noRegs 30))) := Lib.hid ((Ext.alloc _ _).to_alloc _)
  clear hz
  go_enter Try.func69, Try.ntmps69
  go_wp2_with fail
  go_loopw [4] (fun s4 wx => ∃ (i : Nat) (a : Array Value), i ≤ 27 ∧ s4 = .int .i64 i ∧ Hid (a.size = 27 ∧ (∀ j, j < i → ∃ v, a[j]? = some v ∧ RegOw wx (w.heap.size + 2) v (rs j)) ∧ (∀ j, i ≤ j → a[j]? = cs[j]?)) ∧ Hid (Blk wx w.heap.size 30 a) ∧ Hid (Blk wx (w.heap.size + 1) 30 noRegs) ∧ Hid (Ext w wx) ∧ Hid (Apart a i)) (fun s4 _ => 27 - (intOf s4).toNat)
  case atStart => exact ⟨0, cs, by omega, rfl, Lib.hid ⟨hcs, fun j hj => by omega, fun _ _ => rfl⟩, hb1, hb2, hE, Lib.hid (fun j k g hj => by omega)⟩
  case round =>
    clear hb1 hb2 hE
    obtain ⟨i, a, hi, rfl, Ha, Hb1, Hb2, He, Hap⟩ := hrel
    have hle := Hb2.out.lt
    by_cases hlt : i < 27
    · obtain ⟨v, hv, A, n, c, rfl, hI, hA, hn⟩ := H.out.2 i hlt
      have hc : wr.cell? ⟨w.heap.size, i, none⟩ = some (.slice A n c) := by rw [Hb1.out.cell i, Ha.out.2.2 i (Nat.le_refl _), hv]
      have HC := Lib.hid (clone_ok (hI.ext He.out) hA hn)
      clear hv hI
      go_wp2_with fail
      refine HC.out.mono ?_
      rintro e w2 ⟨B, d, rfl, hO, hB, he2⟩
      have Hb1' := Lib.hid (Blk.ext Hb1.out he2)
      have Hb2' := Lib.hid (Blk.ext Hb2.out he2)
      have HO : Hid (RegOw w2 (w.heap.size + 2) (.slice B n d) (rs i)) := Lib.hid ⟨B, n, d, rfl, Own.lower hO (by omega), hB, hn⟩
      have He2 := Lib.hid (He.out.trans he2)
      have Ha2 : Hid (a.size = 27 ∧ (∀ j, j < i → ∃ v, a[j]? = some v ∧ RegOw w2 (w.heap.size + 2) v (rs j)) ∧ (∀ j, i ≤ j → a[j]? = cs[j]?)) := Lib.hid ⟨Ha.out.1, fun j hj => by obtain ⟨v, h1, h2⟩ := Ha.out.2.1 j hj; exact ⟨v, h1, h2.ext he2⟩, Ha.out.2.2⟩
      have Hap2 : Hid (Apart (a.setIfInBounds i (.slice B n d)) (i + 1)) := Lib.hid (Hap.out.snoc (m := wr.heap.size) (by rw [Ha.out.1]; exact hlt) (fun j g hj hg => by
        obtain ⟨v, h1, h2⟩ := Ha.out.2.1 j hj
        exact (h2.blk g (by unfold ownB at hg; rw [h1] at hg; exact hg)).2) (fun g hg => (Own.blk hO g hg).1))
      have hfr := Hb1'.out.frozen i
      have hc2 : w2.cell? ⟨w.heap.size, i, none⟩ = some (.slice A n c) := he2.cell hc
      clear HC hO hB he2 hc Ha Hb1 Hb2 He hA hn Hap
      go_wp2_with fail
      go_roundw
      case rel =>
        refine ⟨i + 1, a.setIfInBounds i (.slice B n d), by omega, by go_num, Lib.hid ⟨by simpa using Ha2.out.1, fun j hj => ?_, fun j hj => ?_⟩, Lib.hid (Hb1'.out.set_ i _), ?_, Lib.hid (He2.out.setCell (Nat.le_refl _) _), Hap2⟩
        · by_cases hji : j = i
          · subst hji
            exact ⟨_, by rw [Array.getElem?_setIfInBounds_self, if_pos (by rw [Ha2.out.1]; exact hlt)], HO.out.setCell (show w.heap.size < w.heap.size + 2 by omega) _⟩
          · obtain ⟨v, h1, h2⟩ := Ha2.out.2.1 j (by omega)
            exact ⟨v, by rw [Array.getElem?_setIfInBounds_ne (by omega)]; exact h1, h2.setCell (show w.heap.size < w.heap.size + 2 by omega) _⟩
        · rw [Array.getElem?_setIfInBounds_ne (by omega)]
          exact Ha2.out.2.2 j (by omega)
        · exact Lib.hid (set_other Hb2'.out (by omega) i _)
      case measure => simp [intOf]; omega
    · obtain rfl : i = 27 := by omega
      have hs := Ha.out.1
      have hone : a.all (·.oneCell') = true := Regs.one (w := wr) (rs := rs) ⟨hs, fun j hj => by obtain ⟨v, h1, h2⟩ := Ha.out.2.1 j hj; exact ⟨v, h1, h2.sl⟩⟩
      have hns : noRegs.size = a.size := by rw [hs]; rfl
      go_wp2_with (first | (refine wpList_load_row rfl 30 (.tmp 1) rfl w.heap.size rfl 30 a (0, 0) _ Hb1.out Try.underlying30 rfl (regs_size hs) ?_) | (refine wpList_store_row rfl 30 (.tmp 2) (.tmp 14) rfl (w.heap.size + 1) a rfl rfl 30 noRegs Hb2.out (regs_size hs) hns hone ?_))
      have HR : Hid (RegsO (wr.setRow (w.heap.size + 1) a) w.heap.size a rs) := Lib.hid ⟨hs, fun j hj => by obtain ⟨v, h1, h2⟩ := Ha.out.2.1 j hj; exact ⟨v, h1, (h2.setRow (show w.heap.size + 1 < w.heap.size + 2 by omega) a).lower (by omega)⟩⟩
      have HX := Lib.hid (He.out.setRow (show w.heap.size ≤ w.heap.size + 1 by omega) a)
      have hres := Hb2.out.setRow a
      refine bodyPost_ret (v := .agg a) ?_ rfl ⟨a, rfl, HR.out, Hap.out, HX.out⟩
      exact results_cell_row rfl _ _ (w.heap.size + 1) 30 _ _ _ rfl hres Try.underlying30 rfl (regs_size hs)
end Go.Proofs.Ytmhgndjmcignjaa
