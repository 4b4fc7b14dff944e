/-
  The walks of package motion: find, right, first, times, words, ends.
-/
import Derived.Test.YtmhgndjmcignjaaZMotM
import Derived.Test.YtmhgndjmcignjaaZMotP

namespace Go.Proofs.Ytmhgndjmcignjaa
open Go.RowKit
set_option linter.unusedVariables false
set_option linter.unusedSimpArgs false

def outP : Option (Nat × Bool) → Ending
  | some (a, i) => .returned (.tuple #[.agg #[.int .i64 a, .bool i], .int .i64 0])
  | none => .returned (.tuple #[.agg #[.int .i64 0, .bool false], .int .i64 5])
def outF : Option Nat → Ending
  | some a => .returned (.tuple #[.int .i64 a, .int .i64 0])
  | none => .returned (.tuple #[.int .i64 0, .int .i64 5])

set_option maxRecDepth 20000 in
set_option maxHeartbeats 2000000 in
theorem find_right {l : List Int} {A : Option Addr} {n c : Nat} {k g : Nat} {op : Bool} {ch : Int} {w : World} (hl : Ints w A n c l) (hn : n ≤ 4096) (hk : k ≤ n) (hg1 : 1 ≤ g) (hg2 : g ≤ 4096) :
    Calls Try.prog 60 #[.agg #[.slice A n c, .int .i64 k, .int .i64 g, .bool op], .int .i64 ch, .int .i64 1] w fun e w' => e = outF (findR l ch (n - (k + 1)) (k + 1) g) ∧ Ext w w' := by
  have hnc := hl.ncap
  have hcm := hl.nmax
  unfold maxLen at hcm
  have hx0 := Ext.alloc w (.cells #[.slice A n c, .int .i64 k, .int .i64 g, .bool op] 99)
  have hb0 := Blk.new w 99 #[.slice A n c, .int .i64 k, .int .i64 g, .bool op]
  have hl1 := hl.ext hx0
  go_enter Try.func60, Try.ntmps60
  go_wp2_with fail
  go_loopw [8, 9] (fun v i wr => ∃ m j : Nat, 1 ≤ m ∧ m ≤ g ∧ k + 1 ≤ j ∧ j ≤ n + 1 ∧ v = .int .i64 m ∧ i = .int .i64 j ∧ Hid (findR l ch (n - j) j m = findR l ch (n - (k + 1)) (k + 1) g) ∧ wr = w.alloc (.cells #[.slice A n c, .int .i64 k, .int .i64 g, .bool op] 99)) (fun _ i _ => n + 1 - (intOf i).toNat)
  case atStart => exact ⟨g, k + 1, hg1, Nat.le_refl _, Nat.le_refl _, by omega, rfl, by go_num, rfl, rfl⟩
  case round =>
    obtain ⟨m, j, h1, h2, h3, h4, rfl, rfl, HF, rfl⟩ := hrel
    have c0 := hb0.cell 0
    simp only [List.getElem?_toArray, List.getElem?_cons_zero, List.getElem?_cons_succ] at c0
    by_cases hlt : j < n
    · obtain ⟨a1, rfl, hc1⟩ := hl1.at_ hlt
      have d1 := hc1 j hlt
      have HS : Hid (findR l ch (n - j) j m = if gI l j = ch then (if m = 1 then some j else findR l ch (n - (j + 1)) (j + 1) (m - 1)) else findR l ch (n - (j + 1)) (j + 1) m) := by
        show findR l ch (n - j) j m = _
        rw [show n - j = (n - (j + 1)) + 1 by omega]; rfl
      clear hc1
      by_cases hz : gI l j = ch
      · have b1 : (gI l j == ch) = true := by simpa using hz
        have HZ := Lib.hid hz
        clear hz
        by_cases hm : m = 1
        · subst hm
          go_wp2_with fail
          go_ret2
          exact ⟨by rw [← HF.out, HS.out, if_pos HZ.out]; rfl, hx0⟩
        · have b2 : ((m : Int) - 1 == 0) = false := by simp; omega
          go_wp2_with fail
          exact ⟨⟨m - 1, j + 1, by omega, by omega, by omega, by omega, by congr 1; omega, by go_num, by
            show _ = _
            rw [← HF.out, HS.out, if_pos HZ.out, if_neg hm], trivial⟩, by simp [intOf] <;> omega⟩
      · have b1 : (gI l j == ch) = false := by simpa using hz
        have HZ := Lib.hid hz
        clear hz
        go_wp2_with fail
        exact ⟨⟨m, j + 1, by omega, by omega, by omega, by omega, by go_num, by go_num, by
            show _ = _
            rw [← HF.out, HS.out, if_neg HZ.out], trivial⟩, by simp [intOf] <;> omega⟩
    · have HN : Hid (findR l ch (n - j) j m = none) := by
        show _ = none
        rw [show n - j = 0 by omega]; rfl
      go_wp2_with fail
      go_ret2
      exact ⟨by rw [← HF.out, HN.out]; rfl, hx0⟩

set_option maxRecDepth 20000 in
set_option maxHeartbeats 2000000 in
theorem find_left {l : List Int} {A : Option Addr} {n c : Nat} {k g : Nat} {op : Bool} {ch : Int} {w : World} (hl : Ints w A n c l) (hn : n ≤ 4096) (hk : k ≤ n) (hg1 : 1 ≤ g) (hg2 : g ≤ 4096) :
    Calls Try.prog 60 #[.agg #[.slice A n c, .int .i64 k, .int .i64 g, .bool op], .int .i64 ch, .int .i64 (-1)] w fun e w' => e = outF (findL l ch k g) ∧ Ext w w' := by
  have hnc := hl.ncap
  have hcm := hl.nmax
  unfold maxLen at hcm
  have hx0 := Ext.alloc w (.cells #[.slice A n c, .int .i64 k, .int .i64 g, .bool op] 99)
  have hb0 := Blk.new w 99 #[.slice A n c, .int .i64 k, .int .i64 g, .bool op]
  have hl1 := hl.ext hx0
  go_enter Try.func60, Try.ntmps60
  go_wp2_with fail
  go_loopw [8, 9] (fun v i wr => ∃ m j : Nat, 1 ≤ m ∧ m ≤ g ∧ j ≤ k ∧ v = .int .i64 m ∧ i = .int .i64 ((j : Int) - 1) ∧ Hid (findL l ch j m = findL l ch k g) ∧ wr = w.alloc (.cells #[.slice A n c, .int .i64 k, .int .i64 g, .bool op] 99)) (fun _ i _ => (intOf i + 1).toNat)
  case atStart => exact ⟨g, k, hg1, Nat.le_refl _, Nat.le_refl _, rfl, by go_num, rfl, rfl⟩
  case round =>
    obtain ⟨m, j, h1, h2, h3, rfl, rfl, HF, rfl⟩ := hrel
    have c0 := hb0.cell 0
    simp only [List.getElem?_toArray, List.getElem?_cons_zero, List.getElem?_cons_succ] at c0
    rcases j with _ | j
    · go_wp2_with fail
      go_ret2
      exact ⟨by rw [← HF.out]; rfl, hx0⟩
    · rw [show ((j + 1 : Nat) : Int) - 1 = (j : Int) by omega]
      have hlt : j < n := by omega
      obtain ⟨a1, rfl, hc1⟩ := hl1.at_ hlt
      have d1 := hc1 j hlt
      have HS : Hid (findL l ch (j + 1) m = if gI l j = ch then (if m = 1 then some j else findL l ch j (m - 1)) else findL l ch j m) := rfl
      clear hc1
      by_cases hz : gI l j = ch
      · have b1 : (gI l j == ch) = true := by simpa using hz
        have HZ := Lib.hid hz
        clear hz
        by_cases hm : m = 1
        · subst hm
          go_wp2_with fail
          go_ret2
          exact ⟨by rw [← HF.out, HS.out, if_pos HZ.out]; rfl, hx0⟩
        · have b2 : ((m : Int) - 1 == 0) = false := by simp; omega
          go_wp2_with fail
          exact ⟨⟨m - 1, j, by omega, by omega, by omega, by congr 1; omega, by go_num, by
            show _ = _
            rw [← HF.out, HS.out, if_pos HZ.out, if_neg hm], trivial⟩, by simp [intOf] <;> omega⟩
      · have b1 : (gI l j == ch) = false := by simpa using hz
        have HZ := Lib.hid hz
        clear hz
        go_wp2_with fail
        exact ⟨⟨m, j, by omega, by omega, by omega, by go_num, by go_num, by
            show _ = _
            rw [← HF.out, HS.out, if_neg HZ.out], trivial⟩, by simp [intOf] <;> omega⟩
end Go.Proofs.Ytmhgndjmcignjaa
