/-
  Where characters begin among a text's bytes, in plain Lean.
-/
import Derived.Test.YtbgegkagnahlpaaUtfH
import Derived.Test.YtbgegkagnahlpaaMaps
namespace Go.Proofs.Ytbgegkagnahlpaa
set_option linter.unusedVariables false
set_option linter.unusedSimpArgs false

/-- The place of the j-th character. -/
def posF (l : List Int) (j : Nat) : Nat := (encL (l.take j)).length
theorem posF_zero (l : List Int) : posF l 0 = 0 := by simp [posF, encL]
theorem posF_cons (c : Int) (l : List Int) (j : Nat) : posF (c :: l) (j + 1) = (encN c.toNat).length + posF l j := by
  unfold posF; rw [List.take_succ_cons, encL_cons, List.length_append]
theorem posF_succ {l : List Int} {j : Nat} (h : j < l.length) : posF l (j + 1) = posF l j + (encN (gI l j).toNat).length := by
  unfold posF
  rw [List.take_succ_eq_append_getElem h, encL_app, List.length_append]
  simp [encL, gI, List.getElem?_eq_getElem h]
theorem posF_all (l : List Int) : posF l l.length = (encL l).length := by unfold posF; rw [List.take_length]
theorem posF_le (l : List Int) (j : Nat) : posF l j ≤ (encL l).length := by
  unfold posF
  have : encL l = encL (l.take j) ++ encL (l.drop j) := by rw [← encL_app, List.take_append_drop]
  rw [this, List.length_append]; omega
theorem posF_mono {l : List Int} {j : Nat} (h : j < l.length) : posF l j < posF l (j + 1) := by
  have := encN_len_pos (gI l j).toNat
  rw [posF_succ h]; omega
theorem posF_lt {l : List Int} {i : Nat} : ∀ j, i < j → j ≤ l.length → posF l i < posF l j
  | 0, h, _ => by omega
  | j + 1, h, hl => by
    have h1 := posF_mono (l := l) (j := j) (by omega)
    by_cases e : i = j
    · rw [e]; exact h1
    · have := posF_lt (l := l) (i := i) j (by omega) (by omega); omega

/-- Within a character's bytes none begins. -/
theorem mid_bad {c o : Nat} {m : List Nat} (h : scal c) (ho : 0 < o) (hl : o < (encN c).length) : getE ((encN c).drop o ++ m) ≠ 0 := by
  have key : ∃ b r, (encN c).drop o ++ m = b :: r ∧ 128 ≤ b ∧ b < 192 := by
    obtain ⟨h0, h1, h2⟩ := h
    unfold encN at hl ⊢
    split
    · rename_i c1; rw [if_pos c1] at hl; simp at hl; omega
    rename_i c1
    rw [if_neg c1] at hl
    split
    · rename_i c2
      rw [if_pos c2] at hl
      obtain rfl : o = 1 := by simp at hl; omega
      exact ⟨_, _, rfl, by omega, by omega⟩
    rename_i c2
    rw [if_neg c2] at hl
    split
    · rename_i c3
      rw [if_pos c3] at hl
      have : o = 1 ∨ o = 2 := by simp at hl; omega
      rcases this with rfl | rfl
      · exact ⟨_, _, rfl, by omega, by omega⟩
      · exact ⟨_, _, rfl, by omega, by omega⟩
    · rename_i c3
      rw [if_neg c3] at hl
      have : o = 1 ∨ o = 2 ∨ o = 3 := by simp at hl; omega
      rcases this with rfl | rfl | rfl
      · exact ⟨_, _, rfl, by omega, by omega⟩
      · exact ⟨_, _, rfl, by omega, by omega⟩
      · exact ⟨_, _, rfl, by omega, by omega⟩
  obtain ⟨b, r, e, h1, h2⟩ := key
  rw [e]
  unfold getE
  rw [if_neg (by simp), gN_zero, if_pos (lead0 h1 h2)]
  decide

theorem locate : ∀ (l : List Int) (k : Nat), k < (encL l).length → ∃ j o, j < l.length ∧ o < (encN (gI l j).toNat).length ∧ k = posF l j + o ∧ (encL l).drop k = (encN (gI l j).toNat).drop o ++ encL (l.drop (j + 1))
  | [], k, h => by simp [encL] at h
  | c :: l, k, h => by
    rw [encL_cons, List.length_append] at h
    by_cases hk : k < (encN c.toNat).length
    · refine ⟨0, k, by simp, by simpa [gI] using hk, by rw [posF_zero]; omega, ?_⟩
      rw [encL_cons, List.drop_append_of_le_length (by omega)]
      simp [gI]
    · obtain ⟨j, o, h1, h2, h3, h4⟩ := locate l (k - (encN c.toNat).length) (by omega)
      refine ⟨j + 1, o, by simp; omega, by simpa [gI] using h2, by rw [posF_cons]; omega, ?_⟩
      rw [encL_cons, List.drop_append, h4, List.drop_of_length_le (by omega)]
      simp [gI]

theorem sync_at {l : List Int} {k : Nat} (h : ∀ c ∈ l, scal c) (hk : k < (encL l).length) :
    (getE ((encL l).drop k) = 0 ↔ ∃ j, j < l.length ∧ posF l j = k) ∧ ∃ d, d ≤ 3 ∧ (k + d = (encL l).length ∨ ∃ j, j < l.length ∧ posF l j = k + d) := by
  obtain ⟨j, o, h1, h2, h3, h4⟩ := locate l k hk
  have hc := scal_nat (h (gI l j) (by unfold gI; rw [List.getElem?_eq_getElem h1]; exact List.getElem_mem h1))
  have h5 := encN_len_le (gI l j).toNat
  have h6 := posF_succ h1
  by_cases ho : o = 0
  · subst ho
    refine ⟨⟨fun _ => ⟨j, h1, by omega⟩, fun _ => ?_⟩, 0, by omega, .inr ⟨j, h1, by omega⟩⟩
    rw [h4, List.drop_zero]
    exact getE_enc hc _
  · refine ⟨⟨fun hh => ?_, fun ⟨i, hi, he⟩ => ?_⟩, (encN (gI l j).toNat).length - o, by omega, ?_⟩
    · rw [h4] at hh
      exact absurd hh (mid_bad hc (by omega) h2)
    · exfalso
      by_cases hij : i ≤ j
      · have : posF l i ≤ posF l j := by
          by_cases e : i = j
          · rw [e]; exact Nat.le_refl _
          · exact Nat.le_of_lt (posF_lt j (by omega) (by omega))
        omega
      · have : posF l (j + 1) ≤ posF l i := by
          by_cases e : j + 1 = i
          · rw [e]; exact Nat.le_refl _
          · exact Nat.le_of_lt (posF_lt i (by omega) (by omega))
        omega
    · by_cases hn : j + 1 < l.length
      · exact .inr ⟨j + 1, hn, by omega⟩
      · left
        have : j + 1 = l.length := by omega
        rw [← posF_all, ← this]; omega

/-- The places where a character begins, of the first j. -/
def stS (l : List Int) : Nat → List Nat
  | 0 => []
  | j + 1 => posF l j :: stS l j
theorem mem_stS {l : List Int} {x : Nat} : ∀ {j : Nat}, x ∈ stS l j ↔ ∃ i, i < j ∧ posF l i = x
  | 0 => by simp [stS]
  | j + 1 => by
    rw [stS, List.mem_cons, mem_stS (j := j)]
    constructor
    · rintro (h | ⟨i, h1, h2⟩)
      · exact ⟨j, by omega, h.symm⟩
      · exact ⟨i, by omega, h2⟩
    · rintro ⟨i, h1, h2⟩
      by_cases e : i = j
      · left; rw [← h2, e]
      · exact .inr ⟨i, by omega, h2⟩
def inF (S : List Nat) : Int → Int := fun x => if ∃ j ∈ S, (j : Int) = x then 1 else 0
theorem inF_nil (x : Int) : noF x = inF [] x := by simp [noF, inF]
theorem inF_cons (S : List Nat) (k : Nat) (x : Int) : updF (inF S) k 1 x = inF (k :: S) x := by
  unfold updF inF
  by_cases e : x = k
  · subst e; simp
  · simp only [List.mem_cons, exists_eq_or_imp]
    rw [if_neg e]
    by_cases h : ∃ j ∈ S, (j : Int) = x
    · rw [if_pos h, if_pos (.inr h)]
    · rw [if_neg h, if_neg]
      rintro (h2 | h2)
      · exact e h2.symm
      · exact h h2
theorem inF_nat (S : List Nat) (k : Nat) : inF S k = if k ∈ S then 1 else 0 := by
  unfold inF
  by_cases h : k ∈ S
  · rw [if_pos h, if_pos ⟨k, h, rfl⟩]
  · rw [if_neg h, if_neg]
    rintro ⟨j, h1, h2⟩
    exact h (by have : j = k := by omega
                rwa [← this])
end Go.Proofs.Ytbgegkagnahlpaa
