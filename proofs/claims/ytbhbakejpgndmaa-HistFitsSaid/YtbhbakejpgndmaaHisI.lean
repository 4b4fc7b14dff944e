/-
  What Find finds, in plain Lean.
-/
import Derived.Test.YtbhbakejpgndmaaHisG
namespace Go.Proofs.Ytbhbakejpgndmaa
open Go.RowKit
set_option linter.unusedVariables false
set_option linter.unusedSimpArgs false

theorem fdO_some {ls : List (List Int)} {p : List Int} : ∀ {a k : Nat}, fdO ls p a = some k → k < a ∧ fitsB p (gL ls k) = true ∧ ∀ j, k < j → j < a → fitsB p (gL ls j) = false
  | 0, k, h => by cases h
  | a + 1, k, h => by
    rw [fdO] at h
    cases hf : fitsB p (gL ls a)
    · rw [hf] at h
      obtain ⟨h1, h2, h3⟩ := fdO_some (a := a) (k := k) (by simpa using h)
      refine ⟨by omega, h2, fun j h4 h5 => ?_⟩
      rcases Nat.lt_or_ge j a with h6 | h6
      · exact h3 j h4 h6
      · obtain rfl : j = a := by omega
        exact hf
    · rw [hf] at h
      simp at h
      subst h
      exact ⟨by omega, hf, fun j h4 h5 => by omega⟩
theorem fdN_some {ls : List (List Int)} {p : List Int} {n : Nat} : ∀ {r k : Nat}, r ≤ n → fdN ls p n r = some k → n - r ≤ k ∧ k < n ∧ fitsB p (gL ls k) = true ∧ ∀ j, n - r ≤ j → j < k → fitsB p (gL ls j) = false
  | 0, k, _, h => by cases h
  | r + 1, k, hr, h => by
    rw [fdN] at h
    cases hf : fitsB p (gL ls (n - (r + 1)))
    · rw [hf] at h
      obtain ⟨h1, h2, h3, h4⟩ := fdN_some (n := n) (r := r) (k := k) (by omega) (by simpa using h)
      refine ⟨by omega, h2, h3, fun j h5 h6 => ?_⟩
      rcases Nat.lt_or_ge j (n - r) with h7 | h7
      · obtain rfl : j = n - (r + 1) := by omega
        exact hf
      · exact h4 j h7 h6
    · rw [hf] at h
      simp at h
      subst h
      exact ⟨by omega, by omega, hf, fun j h5 h6 => by omega⟩
/-- What is found: where, and that nothing between has the pattern. -/
theorem found {h : Hi} {p : List Int} {older : Bool} {k : Nat} (hb : ¬ h.bad) (hk : findK h p older = some k) :
    k < h.lines.length ∧ fitsB p (gL h.lines k) = true ∧ (k : Int) ≠ h.at_ ∧ (decide ((k : Int) < h.at_) = older) ∧ ∀ j : Nat, min (k : Int) h.at_ < j → (j : Int) < max (k : Int) h.at_ → fitsB p (gL h.lines j) = false := by
  unfold Hi.bad at hb
  unfold findK at hk
  cases older
  · simp only [Bool.false_eq_true, if_false] at hk
    obtain ⟨h1, h2, h3, h4⟩ := fdN_some (n := h.lines.length) (r := h.lines.length - (h.at_.toNat + 1)) (by omega) hk
    refine ⟨h2, h3, by omega, by simp; omega, fun j h5 h6 => h4 j (by omega) (by omega)⟩
  · simp only [if_true] at hk
    obtain ⟨h1, h2, h3⟩ := fdO_some hk
    refine ⟨by omega, h2, by omega, by simp; omega, fun j h5 h6 => h3 j (by omega) (by omega)⟩
/-- A history of one line. -/
def oneH (l : List Int) : Hi := ⟨[l], 1, 1, [], [], false⟩
theorem one_find {l p : List Int} (hl : l.length ≤ 200) (hp : p.length ≤ 200) (hp0 : p ≠ []) : (∃ k, FOk (oneH l) [] p true k) ↔ fitsB p l = true := by
  have hpe : patE (oneH l) p = p := by
    unfold patE
    rw [if_neg]
    intro e
    exact hp0 (List.eq_nil_of_length_eq_zero e)
  have hg : Good (oneH l) [] 0 := by
    refine ⟨by unfold Hi.bad oneH; simp, ?_, by simp, by omega, by omega⟩
    rw [long_iff]
    refine ⟨fun i hi => ?_, by simp [oneH], by simp [oneH]⟩
    have hi' : i < 1 := hi
    obtain rfl : i = 0 := by omega
    exact hl
  have hf : findK (oneH l) p true = if fitsB p l then some 0 else none := by
    unfold findK
    rw [if_pos rfl]
    show fdO [l] p 1 = _
    rw [fdO, fdO]
    rfl
  constructor
  · rintro ⟨k, _, _, _, h4⟩
    rw [hpe, hf] at h4
    cases h : fitsB p l
    · rw [h] at h4; simp at h4
    · rfl
  · intro h
    refine ⟨0, hg, hp, by rw [hpe]; exact hp0, ?_⟩
    rw [hpe, hf, h]
    rfl
theorem past_find : FOk pastH [] (chars ⟨#[110, 101]⟩) true 0 := by
  refine ⟨⟨past_good.1.1, past_good.1.2.1, by simp, by omega, by omega⟩, by decide, by decide, by decide⟩
theorem past_toL : toL pastH [] 0 = chars ⟨#[111, 110, 101]⟩ := by rfl
end Go.Proofs.Ytbhbakejpgndmaa
