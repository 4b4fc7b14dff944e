/-
  What HistLast's loop keeps, in plain Lean.
-/
import Derived.Test.YtbhbakejpgndmaaHisW
import Derived.Test.YtbhbakejpgndmaaHisB
namespace Go.Proofs.Ytbhbakejpgndmaa
open Go.RowKit
set_option linter.unusedVariables false
set_option linter.unusedSimpArgs false

/-- The lines that aren't empty. -/
def neL (ls : List (List Int)) : List (List Int) := ls.filter fun l => decide (l.length ≠ 0)
theorem lastN_len {α : Type} (m : Nat) (l : List α) : (lastN m l).length = min l.length m := by unfold lastN; rw [List.length_drop]; omega
theorem lastN_snoc {α : Type} {m : Nat} (h : 1 ≤ m) (l : List α) (x : α) : lastN m (lastN m l ++ [x]) = lastN m (l ++ [x]) := by
  unfold lastN
  rw [List.length_append, List.length_drop, List.length_append, List.length_singleton]
  rw [List.drop_append_of_le_length (by rw [List.length_drop]; omega), List.drop_append_of_le_length (by omega), List.drop_drop]
  congr 2
  omega
theorem mem_lastN {α : Type} {m : Nat} {l : List α} {x : α} (h : x ∈ lastN m l) : x ∈ l := List.mem_of_mem_drop h
/-- A right history with the last lines of what came. -/
def HInv (most : Int) (W : List (List Int)) (h : Hi) : Prop := h.most = most ∧ ¬ h.bad ∧ ¬ h.long ∧ h.lines = lastN most.toNat W
theorem HInv.start {most : Int} (h1 : 1 ≤ most) (h2 : most ≤ 50) : HInv most [] ⟨[], most, 0, [], [], false⟩ := by
  refine ⟨rfl, by unfold Hi.bad; simp; omega, ?_, by simp [lastN]⟩
  rw [long_iff]
  exact ⟨fun i hi => absurd hi (by simp), by simp, by simp⟩
theorem gL_mem {ls : List (List Int)} {i : Nat} (h : i < ls.length) : gL ls i ∈ ls := by
  unfold gL
  rw [List.getElem?_eq_getElem h]
  exact List.getElem_mem h
theorem HInv.add {most : Int} {W : List (List Int)} {h : Hi} {l : List Int} (hh : HInv most W h) (hl : l.length ≤ 200) : HInv most (W ++ (if l.length = 0 then [] else [l])) (addH h l) := by
  obtain ⟨h1, h2, h3, h4⟩ := hh
  have hb := h2
  unfold Hi.bad at hb
  have h5 : addLs h l = lastN most.toNat (W ++ (if l.length = 0 then [] else [l])) := by
    unfold addLs
    by_cases h0 : l.length = 0
    · rw [if_pos h0, if_pos h0, List.append_nil, h4]
    · rw [if_neg h0, if_neg h0, h4, h1, lastN_snoc (by omega)]
  have hln : (addLs h l).length ≤ h.most.toNat := by rw [h5, lastN_len, h1]; omega
  refine ⟨h1, ?_, ?_, h5⟩
  · unfold Hi.bad addH
    simp only
    omega
  · rw [long_iff]
    obtain ⟨l1, l2, l3⟩ := long_iff.1 h3
    refine ⟨fun i hi => ?_, by simp [addH], l3⟩
    have hm : gL (addH h l).lines i ∈ addLs h l := gL_mem hi
    unfold addLs at hm
    split at hm
    · obtain ⟨j, hj, hjj⟩ := List.mem_iff_getElem.1 hm
      rw [← hjj]
      have := l1 j hj
      unfold gL at this
      rw [List.getElem?_eq_getElem hj] at this
      exact this
    · have hm2 := mem_lastN hm
      rcases List.mem_append.1 hm2 with hm3 | hm3
      · obtain ⟨j, hj, hjj⟩ := List.mem_iff_getElem.1 hm3
        rw [← hjj]
        have := l1 j hj
        unfold gL at this
        rw [List.getElem?_eq_getElem hj] at this
        exact this
      · rw [List.mem_singleton.1 hm3]
        exact hl
theorem HInv.ok {most : Int} {W : List (List Int)} {h : Hi} {l : List Int} (hh : HInv most W h) : AOk h l ↔ l.length ≤ 200 := ⟨fun k => k.2.2, fun k => ⟨hh.2.1, hh.2.2.1, k⟩⟩
theorem HInv.up {most : Int} {W : List (List Int)} {h : Hi} {k : Int} (hh : HInv most W h) (hk : (farH k : Int) ≤ h.at_) : HInv most W (toH h [] (h.at_.toNat - farH k)) := by
  obtain ⟨h1, h2, h3, h4⟩ := hh
  have hb := h2
  unfold Hi.bad at hb
  refine ⟨h1, ?_, ?_, h4⟩
  · unfold Hi.bad toH
    simp only
    omega
  · rw [long_iff]
    obtain ⟨l1, l2, l3⟩ := long_iff.1 h3
    exact ⟨l1, toS_len h3 (by simp), l3⟩
theorem neL_snoc {ls : List (List Int)} {k : Nat} (h : k < ls.length) : neL (ls.take (k + 1)) = neL (ls.take k) ++ (if (gL ls k).length = 0 then [] else [gL ls k]) := by
  unfold neL
  rw [gL_take h, List.filter_append]
  congr 1
  by_cases h0 : (gL ls k).length = 0
  · rw [if_pos h0]; simp at h0; simp [h0]
  · rw [if_neg h0]; simp at h0; simp [h0]
theorem neL_len (ls : List (List Int)) (k : Nat) : (neL (ls.take k)).length ≤ k := by
  unfold neL
  have h1 := List.length_filter_le (fun l : List Int => decide (l.length ≠ 0)) (ls.take k)
  have h2 := List.length_take_le k ls
  omega
theorem past_add : AOk pastH (chars ⟨#[116, 104, 114, 101, 101]⟩) ∧ (addLs pastH (chars ⟨#[116, 104, 114, 101, 101]⟩)).length = 3 := by
  refine ⟨⟨past_good.1.1, past_good.1.2.1, by decide⟩, by decide⟩
end Go.Proofs.Ytbhbakejpgndmaa
