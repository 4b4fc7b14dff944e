/-
  So many times a motion is as often the motion once, in plain Lean.
-/
import Derived.Test.YtkjlgfokgpdliaaMotM
namespace Go.Proofs.Ytkjlgfokgpdliaa
set_option linter.unusedVariables false

theorem findR_succ (l : List Int) (c : Int) (f i g : Nat) : findR l c (f + 1) i g = if gI l i = c then (if g = 1 then some i else findR l c f (i + 1) (g - 1)) else findR l c f (i + 1) g := rfl
theorem findL_succ (l : List Int) (c : Int) (m g : Nat) : findL l c (m + 1) g = if gI l m = c then (if g = 1 then some m else findL l c m (g - 1)) else findL l c m g := rfl
theorem findR_more {l : List Int} {c : Int} : ∀ {f i m a : Nat}, findR l c f i (m + 2) = some a → ∃ p, findR l c f i 1 = some p ∧ findR l c (i + f - (p + 1)) (p + 1) (m + 1) = some a
  | 0, i, m, a, h => by simp [findR] at h
  | f + 1, i, m, a, h => by
    rw [findR_succ] at h
    by_cases hc : gI l i = c
    · rw [if_pos hc, if_neg (by omega)] at h
      refine ⟨i, by rw [findR_succ, if_pos hc, if_pos rfl], ?_⟩
      rw [show i + (f + 1) - (i + 1) = f by omega]
      exact h
    · rw [if_neg hc] at h
      obtain ⟨p, h1, h2⟩ := findR_more h
      refine ⟨p, by rw [findR_succ, if_neg hc]; exact h1, ?_⟩
      rw [show i + (f + 1) - (p + 1) = (i + 1) + f - (p + 1) by omega]
      exact h2
theorem findL_more {l : List Int} {c : Int} : ∀ {k m a : Nat}, findL l c k (m + 2) = some a → ∃ p, findL l c k 1 = some p ∧ findL l c p (m + 1) = some a
  | 0, m, a, h => by simp [findL] at h
  | k + 1, m, a, h => by
    rw [findL_succ] at h
    by_cases hc : gI l k = c
    · rw [if_pos hc, if_neg (by omega)] at h
      exact ⟨k, by rw [findL_succ, if_pos hc, if_pos rfl], h⟩
    · rw [if_neg hc] at h
      obtain ⟨p, h1, h2⟩ := findL_more h
      exact ⟨p, by rw [findL_succ, if_neg hc]; exact h1, h2⟩

/-- Where one is after j times. -/
def mtInv (l : List Int) (k : Nat) (key : Int) (N : Nat) (op : Bool) (a j p : Nat) : Prop :=
  if key = 102 then (j < N → findR l 97 (l.length - (p + 1)) (p + 1) (N - j) = some a) ∧ (j = N → p = a)
  else if key = 70 then (j < N → findL l 97 p (N - j) = some a) ∧ (j = N → p = a)
  else if key = 104 then p = k - j
  else if key = 108 then p = k + j ∧ (0 < j → p ≤ if op = true then l.length else l.length - 1)
  else if key = 98 then p = itF (backF l · false) j k
  else if key = 66 then p = itF (backF l · true) j k
  else if key = 101 then p = itF (endF l · false) j k
  else p = itF (endF l · true) j k
def mtKey (key : Int) : Prop := key = 104 ∨ key = 108 ∨ key = 98 ∨ key = 66 ∨ key = 101 ∨ key = 69 ∨ key = 102 ∨ key = 70

section
variable {l : List Int} {k : Nat} {key : Int} {N : Nat} {op : Bool} {a : Nat} {i : Bool}

theorem mt_start (hkey : mtKey key) (hN : 1 ≤ N) (h : goR l k key 97 N op (some (a, i))) : mtInv l k key N op a 0 k := by
  rcases hkey with rfl | rfl | rfl | rfl | rfl | rfl | rfl | rfl
  all_goals simp [mtInv, itF]
  · simp [goR, isFind, foundF] at h
    exact ⟨fun _ => by
      cases hf : findR l 97 (l.length - (k + 1)) (k + 1) N with
      | none => rw [hf] at h; simp at h
      | some j => rw [hf] at h; simp at h; rw [h.1], fun h => by omega⟩
  · simp [goR, isFind, foundF] at h
    exact ⟨fun _ => by
      cases hf : findL l 97 k N with
      | none => rw [hf] at h; simp at h
      | some j => rw [hf] at h; simp at h; rw [h.1], fun h => by omega⟩

theorem mt_end (hkey : mtKey key) (hN : 1 ≤ N) (h : goR l k key 97 N op (some (a, i))) {p : Nat} (hI : mtInv l k key N op a N p) : p = a := by
  rcases hkey with rfl | rfl | rfl | rfl | rfl | rfl | rfl | rfl
  all_goals simp [mtInv] at hI
  all_goals simp [goR, isFind, plainR, plainF] at h
  · omega
  · cases op
    · simp at h hI; omega
    · simp at h hI; omega
  · rw [hI, h.2.1]
  · rw [hI, h.2.1]
  · rw [hI, h.2.2.1]
  · rw [hI, h.2.2.1]
  · exact hI
  · exact hI

theorem mt_step1 (hkey : mtKey key) {j p : Nat} (hj : j < N) (hI : mtInv l k key N op a j p) (h : goR l p key 97 1 op none) : key ≠ 102 ∧ key ≠ 70 := by
  rcases hkey with rfl | rfl | rfl | rfl | rfl | rfl | rfl | rfl
  all_goals simp [mtInv] at hI ⊢
  all_goals simp [goR, isFind, foundF] at h
  · have h1 := hI.1 hj
    rcases Nat.lt_or_ge (j + 1) N with h2 | h2
    · obtain ⟨m, hm⟩ : ∃ m, N - j = m + 2 := ⟨N - j - 2, by omega⟩
      rw [hm] at h1
      obtain ⟨q, h3, h4⟩ := findR_more h1
      rw [h3] at h; cases h
    · rw [show N - j = 1 by omega] at h1
      rw [h1] at h; cases h
  · have h1 := hI.1 hj
    rcases Nat.lt_or_ge (j + 1) N with h2 | h2
    · obtain ⟨m, hm⟩ : ∃ m, N - j = m + 2 := ⟨N - j - 2, by omega⟩
      rw [hm] at h1
      obtain ⟨q, h3, h4⟩ := findL_more h1
      rw [h3] at h; cases h
    · rw [show N - j = 1 by omega] at h1
      rw [h1] at h; cases h

theorem mt_step2 (hkey : mtKey key) {j p : Nat} (hj : j < N) (hI : mtInv l k key N op a j p) {a' : Nat} {i' : Bool} (h : goR l p key 97 1 op (some (a', i'))) :
    mtInv l k key N op a (j + 1) a' ∧ (key = 102 ∨ key = 70 → a' < l.length ∨ a' < p) := by
  rcases hkey with rfl | rfl | rfl | rfl | rfl | rfl | rfl | rfl
  all_goals simp [mtInv] at hI ⊢
  all_goals simp [goR, isFind, plainR, plainF, foundF] at h
  · omega
  · cases op
    · simp at h hI ⊢; omega
    · simp at h hI ⊢; omega
  · simp [itF] at h ⊢; rw [h.2.1, hI]
  · simp [itF] at h ⊢; rw [h.2.1, hI]
  · simp [itF] at h ⊢; rw [h.2.2.1, hI]
  · simp [itF] at h ⊢; rw [h.2.2.1, hI]
  · have h1 := hI.1 hj
    rcases Nat.lt_or_ge (j + 1) N with h2 | h2
    · obtain ⟨m, hm⟩ : ∃ m, N - j = m + 2 := ⟨N - j - 2, by omega⟩
      rw [hm] at h1
      obtain ⟨q, h3, h4⟩ := findR_more h1
      have hb := findR_bd h3
      rw [show p + 1 + (l.length - (p + 1)) - (q + 1) = l.length - (q + 1) by omega] at h4
      rw [h3] at h
      simp at h
      obtain ⟨rfl, rfl⟩ := h
      refine ⟨⟨fun _ => ?_, fun h => by omega⟩, .inl (by omega)⟩
      rw [show N - (j + 1) = m + 1 by omega]
      exact h4
    · rw [show N - j = 1 by omega] at h1
      have hb := findR_bd h1
      rw [h1] at h
      simp at h
      obtain ⟨rfl, rfl⟩ := h
      exact ⟨⟨fun h => by omega, fun _ => rfl⟩, .inl (by omega)⟩
  · have h1 := hI.1 hj
    rcases Nat.lt_or_ge (j + 1) N with h2 | h2
    · obtain ⟨m, hm⟩ : ∃ m, N - j = m + 2 := ⟨N - j - 2, by omega⟩
      rw [hm] at h1
      obtain ⟨q, h3, h4⟩ := findL_more h1
      have hb := findL_bd h3
      rw [h3] at h
      simp at h
      obtain ⟨rfl, rfl⟩ := h
      refine ⟨⟨fun _ => ?_, fun h => by omega⟩, .inr (by omega)⟩
      rw [show N - (j + 1) = m + 1 by omega]
      exact h4
    · rw [show N - j = 1 by omega] at h1
      have hb := findL_bd h1
      rw [h1] at h
      simp at h
      obtain ⟨rfl, rfl⟩ := h
      exact ⟨⟨fun h => by omega, fun _ => rfl⟩, .inr (by omega)⟩
end

theorem mt_lit {o : Option (Nat × Bool)} (h : goR (chars ⟨#[97, 98, 99]⟩) (0 : Int).toNat 108 0 (max 1 (2 : Int)).toNat false o) : o = some (2, false) := by
  have h1 : isFind 108 = false := by decide +kernel
  unfold goR at h
  rw [h1] at h
  unfold plainR at h
  simp at h
  rw [h]
  decide +kernel
end Go.Proofs.Ytkjlgfokgpdliaa
