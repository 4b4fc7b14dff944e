/-
  slices.Reverse at [][]int, on a row of the call's own: the walk.
-/
import Derived.Test.YtdkjkcegchohfaaNbE
import Derived.Test.YtdkjkcegchohfaaNbN
import Derived.BigRegion
namespace Go.Proofs.Ytdkjkcegchohfaa
open Go.RowKit
set_option linter.unusedVariables false
set_option linter.unusedSimpArgs false

def gV (l : List Value) (k : Nat) : Value := l[k]?.getD undef
/-- Turned round from both ends, i numbers each. -/
def rvV (l : List Value) (i : Nat) : List Value := (List.range l.length).map fun k => if k < i ∨ l.length ≤ k + i then gV l (l.length - 1 - k) else gV l k
theorem rvV_len (l : List Value) (i : Nat) : (rvV l i).length = l.length := by simp [rvV]
theorem rvV_zero (l : List Value) : rvV l 0 = l := by
  apply List.ext_getElem
  · exact rvV_len l 0
  · intro k h1 h2
    simp [rvV, gV, h2]
    omega
theorem rvV_get (l : List Value) {i k : Nat} (hk : k < l.length) : gV (rvV l i) k = if k < i ∨ l.length ≤ k + i then gV l (l.length - 1 - k) else gV l k := by
  unfold rvV
  simp [gV, hk]
theorem rvV_end (l : List Value) {i : Nat} (h : l.length ≤ i + i + 1) : rvV l i = l.reverse := by
  apply List.ext_getElem
  · simp [rvV_len]
  · intro k h1 h2
    have hk : k < l.length := by simpa using h2
    have e := rvV_get l (i := i) hk
    have e2 : gV (rvV l i) k = (rvV l i)[k] := by simp [gV, h1]
    rw [← e2, e, List.getElem_reverse]
    have e3 : gV l (l.length - 1 - k) = l[l.length - 1 - k] := by simp [gV, show l.length - 1 - k < l.length by omega]
    split
    · exact e3
    · have : k = l.length - 1 - k := by omega
      rw [← e3, ← this]
theorem rvV_set (l : List Value) {i : Nat} (h : i + i + 1 < l.length) : ((rvV l i).set i (gV l (l.length - 1 - i))).set (l.length - 1 - i) (gV l i) = rvV l (i + 1) := by
  apply List.ext_getElem
  · simp [rvV_len]
  · intro k h1 h2
    have hk : k < l.length := by rw [rvV_len] at h2; exact h2
    have e := rvV_get l (i := i) hk
    have e' := rvV_get l (i := i + 1) hk
    have e2 : gV (rvV l i) k = (rvV l i)[k]'(by rw [rvV_len]; exact hk) := by simp [gV, rvV_len, hk]
    have e3 : gV (rvV l (i + 1)) k = (rvV l (i + 1))[k]'h2 := by simp [gV, h2]
    rw [← e3, e', List.getElem_set, List.getElem_set, ← e2, e]
    by_cases k1 : l.length - 1 - i = k
    · rw [if_pos k1, if_pos (by omega), show l.length - 1 - k = i by omega]
    · rw [if_neg k1]
      by_cases k2 : i = k
      · subst k2
        rw [if_pos rfl, if_pos (by omega)]
      · rw [if_neg k2]
        by_cases k3 : k < i ∨ l.length ≤ k + i
        · rw [if_pos k3, if_pos (by omega)]
        · rw [if_neg k3, if_neg (by omega)]

theorem gb_trans {a b c : World} {row : Option Nat} (h1 : a.grownBy b row) (h2 : b.grownBy c row) : a.grownBy c row :=
  ⟨h2.os.trans h1.os, h2.tape.trans h1.tape, h2.output.trans h1.output, Nat.le_trans h1.size h2.size, fun k hk hne => (h2.block k (Nat.lt_of_lt_of_le hk h1.size) hne).trans (h1.block k hk hne)⟩

set_option maxHeartbeats 4000000 in
theorem reverseL_ok {g n c base : Nat} {l : List Value} {w : World} (h : Own w base 23 1 (some ⟨g, 0, none⟩) n c l) (hv : ∀ i, i < n → ∃ A m d, gV l i = .slice A m d) (hn : n ≤ 4611686018427387904) :
    Calls Try.prog 24 #[.slice (some ⟨g, 0, none⟩) n c] w fun e w' => e = .returned (.tuple #[]) ∧ Own w' base 23 1 (some ⟨g, 0, none⟩) n c l.reverse ∧ w.grownBy w' (some g) := by
  have hlen : Hid (l.length = n) := Lib.hid (by have := h.len; omega)
  have HV := Lib.hid hv
  clear hv
  go_enter Try.func24, Try.ntmps24
  go_wp2_with fail
  go_loopw [2, 3] (fun i j wr => ∃ k : Nat, k ≤ n ∧ i = .int .i64 k ∧ j = .int .i64 ((n : Int) - 1 - k) ∧ Own wr base 23 1 (some ⟨g, 0, none⟩) n c (rvV l k) ∧ w.grownBy wr (some g)) (fun i _ _ => n - (intOf i).toNat)
  case atStart => exact ⟨0, by omega, rfl, by simp, by rw [rvV_zero]; exact h, World.grownBy.refl w _⟩
  case round =>
    clear h
    obtain ⟨k, hk, rfl, rfl, ho, hgr⟩ := hrel
    by_cases hlt : k + k + 1 < n
    · obtain ⟨j, hj⟩ : ∃ j, n = j + 1 + k := ⟨n - 1 - k, by omega⟩
      have HJ := Lib.hid hj
      have e1 : (n : Int) - 1 - k = (j : Int) := by omega
      rw [e1]
      have hol : (rvV l k).length = n := by rw [rvV_len, hlen.out]
      obtain ⟨A1, m1, d1, ev1⟩ := HV.out k (by omega)
      obtain ⟨A2, m2, d2, ev2⟩ := HV.out j (by omega)
      have c1 : wr.cell? ⟨g, k, none⟩ = some (.slice A1 m1 d1) := by
        have := World.ownsRow.cellAt ho k (by omega)
        rw [this, List.getElem?_eq_getElem (by omega)]
        have e := rvV_get l (i := k) (k := k) (by rw [hlen.out]; omega)
        rw [if_neg (by rw [hlen.out]; omega)] at e
        rw [← ev1, ← e]; simp [gV, show k < (rvV l k).length by omega]
      have c2 : wr.cell? ⟨g, j, none⟩ = some (.slice A2 m2 d2) := by
        have := World.ownsRow.cellAt ho j (by omega)
        rw [this, List.getElem?_eq_getElem (by omega)]
        have e := rvV_get l (i := k) (k := j) (by rw [hlen.out]; omega)
        rw [if_neg (by rw [hlen.out]; omega)] at e
        rw [← ev2, ← e]; simp [gV, show j < (rvV l k).length by omega]
      have f1 := World.ownsRow.frozenAt ho k
      have f2 := World.ownsRow.frozenAt ho j
      have i1 : (k : Int) < (n : Int) := by omega
      have i2 : (j : Int) < (n : Int) := by omega
      have i3 : (k : Int) < (j : Int) := by omega
      have n1 : ¬ k = j := by omega
      have n2 : ¬ j = k := by omega
      have HS : Hid (((rvV l k).set k (.slice A2 m2 d2)).set j (.slice A1 m1 d1) = rvV l (k + 1)) := by
        have := rvV_set l (i := k) (by rw [hlen.out]; omega)
        rw [hlen.out, show n - 1 - k = j by omega, ev1, ev2] at this
        exact Lib.hid this
      clear e1 hj hol ev1 ev2
      go_wp2_with fail
      go_region
      all_goals
        go_wp2_with fail
        go_roundw
        case rel => exact ⟨k + 1, by omega, by go_num, by have := HJ.out; congr 1; omega, by
          have o1 := (World.ownsRow.stored (World.ownsRow.stored ho k (.slice A2 m2 d2)).1 j (.slice A1 m1 d1)).1
          rw [HS.out] at o1
          exact o1, gb_trans (gb_trans (gb_trans hgr (World.ownsRow.stored ho k (.slice A2 m2 d2)).2) (World.ownsRow.stored (World.ownsRow.stored ho k (.slice A2 m2 d2)).1 j (.slice A1 m1 d1)).2) ⟨rfl, rfl, rfl, Nat.le_refl _, fun _ _ _ => rfl⟩⟩
        case measure => simp [intOf]; omega
    · have HE := rvV_end l (i := k) (by rw [hlen.out]; omega)
      go_wp2_with fail
      go_end0
      exact ⟨rfl, by rw [← HE]; exact ho, hgr⟩
end Go.Proofs.Ytdkjkcegchohfaa
