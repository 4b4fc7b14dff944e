/-
  Where motions lead, in plain Lean.
-/
import Derived.Test.YtmhgndjmcignjaaZJ4
import Derived.Test.YtmhgndjmcignjaaZJ5

namespace Go.Proofs.Ytmhgndjmcignjaa
set_option linter.unusedVariables false
set_option linter.unusedSimpArgs false

/-- The g-th c from i on; f is how many places are left. -/
def findR (l : List Int) (c : Int) : Nat → Nat → Nat → Option Nat
  | 0, _, _ => none
  | f + 1, i, g => if gI l i = c then (if g = 1 then some i else findR l c f (i + 1) (g - 1)) else findR l c f (i + 1) g
/-- The g-th c ahead of m. -/
def findL (l : List Int) (c : Int) : Nat → Nat → Option Nat
  | 0, _ => none
  | m + 1, g => if gI l m = c then (if g = 1 then some m else findL l c m (g - 1)) else findL l c m g
/-- A step, so often. -/
def itF (s : Nat → Nat) : Nat → Nat → Nat
  | 0, k => k
  | g + 1, k => s (itF s g k)
/-- The first that is not blank. -/
def firstF (l : List Int) : Nat := if runR l true 0 0 < l.length then runR l true 0 0 else l.length - 1

def plainF (l : List Int) (k : Nat) (key : Int) (g : Nat) (op : Bool) : Option (Nat × Bool) :=
  if key = 104 then (if k = 0 then none else some (k - g, false))
  else if key = 108 then (if (if op = true then l.length else l.length - 1) ≤ k then none else some (min (if op = true then l.length else l.length - 1) (k + g), false))
  else if key = 48 then some (0, false)
  else if key = 94 then some (firstF l, false)
  else if key = 98 then (if k = 0 then none else some (itF (backF l · false) g k, false))
  else if key = 66 then (if k = 0 then none else some (itF (backF l · true) g k, false))
  else if l.length = 0 then none
  else if key = 36 then some (l.length - 1, true)
  else if key = 124 then some (min g l.length - 1, false)
  else if key = 119 then (if op = true then some (itF (nextF l · false) g k, false) else if min (itF (nextF l · false) g k) (l.length - 1) = k then none else some (min (itF (nextF l · false) g k) (l.length - 1), false))
  else if key = 87 then (if op = true then some (itF (nextF l · true) g k, false) else if min (itF (nextF l · true) g k) (l.length - 1) = k then none else some (min (itF (nextF l · true) g k) (l.length - 1), false))
  else if key = 101 then (if op = false ∧ itF (endF l · false) g k = k then none else some (itF (endF l · false) g k, true))
  else if key = 69 then (if op = false ∧ itF (endF l · true) g k = k then none else some (itF (endF l · true) g k, true))
  else none
/-- What plain answers. -/
def plainR (l : List Int) (k : Nat) (key : Int) (g : Nat) (op : Bool) (o : Option (Nat × Bool)) : Prop :=
  if key = 37 then (∃ i m, foundP l k i m ∧ o = some (m, true)) ∨ (noP l k ∧ o = none) else o = plainF l k key g op
def foundF (l : List Int) (k : Nat) (key arg : Int) (g : Nat) : Option (Nat × Bool) :=
  if key = 102 then (findR l arg (l.length - (k + 1)) (k + 1) g).map (·, true)
  else if key = 116 then (findR l arg (l.length - (k + 1)) (k + 1) g).map (· - 1, true)
  else if key = 70 then (findL l arg k g).map (·, false)
  else (findL l arg k g).map (· + 1, false)
def isFind (key : Int) : Bool := decide (key = 102 ∨ key = 116 ∨ key = 70 ∨ key = 84)
def isPlain (key : Int) : Bool := decide (key = 104 ∨ key = 108 ∨ key = 48 ∨ key = 94 ∨ key = 36 ∨ key = 124 ∨ key = 119 ∨ key = 87 ∨ key = 98 ∨ key = 66 ∨ key = 101 ∨ key = 69 ∨ key = 37)
def goR (l : List Int) (k : Nat) (key arg : Int) (g : Nat) (op : Bool) (o : Option (Nat × Bool)) : Prop :=
  if isFind key = true then o = foundF l k key arg g else plainR l k key g op o

theorem findR_bd {l : List Int} {c : Int} : ∀ {f i g j : Nat}, findR l c f i g = some j → i ≤ j ∧ j < i + f
  | 0, _, _, _, h => by simp [findR] at h
  | f + 1, i, g, j, h => by
    unfold findR at h
    split at h
    · split at h
      · simp at h; omega
      · have := findR_bd h; omega
    · have := findR_bd h; omega
theorem findL_bd {l : List Int} {c : Int} : ∀ {m g j : Nat}, findL l c m g = some j → j < m
  | 0, _, _, h => by simp [findL] at h
  | m + 1, g, j, h => by
    unfold findL at h
    split at h
    · split at h
      · simp at h; omega
      · have := findL_bd h; omega
    · have := findL_bd h; omega
theorem itF_le {s : Nat → Nat} {n : Nat} (hs : ∀ k, k ≤ n → s k ≤ n) : ∀ g {k : Nat}, k ≤ n → itF s g k ≤ n
  | 0, k, h => h
  | g + 1, k, h => hs _ (itF_le hs g h)
theorem itF_lt {s : Nat → Nat} {n : Nat} (hs : ∀ k, k ≤ n → s k < n) : ∀ g {k : Nat}, k < n → itF s g k < n
  | 0, k, h => h
  | g + 1, k, h => hs _ (Nat.le_of_lt (itF_lt hs g h))
theorem itF_ge {s : Nat → Nat} {n : Nat} (hs : ∀ k, k ≤ n → k ≤ s k ∧ s k ≤ n) : ∀ g {k : Nat}, k ≤ n → k ≤ itF s g k
  | 0, k, h => Nat.le_refl _
  | g + 1, k, h => by
    have h1 := itF_le (fun k hk => (hs k hk).2) g h
    have h2 := itF_ge hs g h
    exact Nat.le_trans h2 (hs _ h1).1
theorem nextF_le {l : List Int} {k : Nat} {big : Bool} (hk : k ≤ l.length) : nextF l k big ≤ l.length := (nextF_facts (big := big) hk).2.1
theorem nextF_ge {l : List Int} {k : Nat} {big : Bool} (hk : k ≤ l.length) : k ≤ nextF l k big := (nextF_facts (big := big) hk).1
theorem endF_lt {l : List Int} {k : Nat} {big : Bool} (hk : k ≤ l.length) (h0 : 0 < l.length) : endF l k big < l.length := by
  rcases end_way (big := big) hk with h | h | h <;> omega
theorem endF_le {l : List Int} {k : Nat} {big : Bool} (hk : k ≤ l.length) : endF l k big ≤ l.length := by
  rcases end_way (big := big) hk with h | h | h <;> omega
theorem firstF_le (l : List Int) : firstF l ≤ l.length - 1 := by unfold firstF; split <;> omega
theorem backF_le' {l : List Int} {big : Bool} : ∀ k, k ≤ l.length → backF l k big ≤ l.length := fun k hk => Nat.le_trans (backF_le hk) hk

/-- Bounds of all motions. -/
theorem goR_bd {l : List Int} {k : Nat} {key arg : Int} {g : Nat} {op : Bool} {o : Option (Nat × Bool)} (hk : k ≤ l.length - 1) (hg : 1 ≤ g) (h : goR l k key arg g op o) {a : Nat} {i : Bool} (ho : o = some (a, i)) :
    a ≤ l.length ∧ (op = false → a ≤ l.length - 1) ∧ (i = true → a < l.length) := by
  have hkl : k ≤ l.length := by omega
  subst ho
  unfold goR at h
  split at h
  · unfold foundF at h
    split at h
    · cases hf : findR l arg (l.length - (k + 1)) (k + 1) g with
      | none => rw [hf] at h; simp at h
      | some j => rw [hf] at h; simp at h; have := findR_bd hf; omega
    split at h
    · cases hf : findR l arg (l.length - (k + 1)) (k + 1) g with
      | none => rw [hf] at h; simp at h
      | some j => rw [hf] at h; simp at h; have := findR_bd hf; omega
    split at h
    · cases hf : findL l arg k g with
      | none => rw [hf] at h; simp at h
      | some j => rw [hf] at h; simp at h; have := findL_bd hf; obtain ⟨rfl, rfl⟩ := h; simp; omega
    · cases hf : findL l arg k g with
      | none => rw [hf] at h; simp at h
      | some j => rw [hf] at h; simp at h; have := findL_bd hf; obtain ⟨rfl, rfl⟩ := h; simp; omega
  · unfold plainR at h
    split at h
    · rcases h with ⟨i', m, hf, he⟩ | ⟨_, he⟩
      · injection he with he
        injection he with he1 he2
        subst he1; subst he2
        have h1 := hf.2.2.2.2.2
        simp; omega
      · cases he
    · have e1 := itF_le (fun k hk => nextF_le (l := l) (big := false) hk) g hkl
      have e2 := itF_le (fun k hk => nextF_le (l := l) (big := true) hk) g hkl
      have e3 := itF_le (backF_le' (l := l) (big := false)) g hkl
      have e4 := itF_le (backF_le' (l := l) (big := true)) g hkl
      have e5 := itF_le (fun k hk => Nat.le_trans (backF_le (l := l) (big := false) (Nat.le_trans hk (Nat.sub_le _ _))) hk) g hk
      have e6 := itF_le (fun k hk => Nat.le_trans (backF_le (l := l) (big := true) (Nat.le_trans hk (Nat.sub_le _ _))) hk) g hk
      have e7 := firstF_le l
      have e8 : 0 < l.length → itF (endF l · false) g k < l.length := fun h0 => itF_lt (fun k hk => endF_lt hk h0) g (by omega)
      have e9 : 0 < l.length → itF (endF l · true) g k < l.length := fun h0 => itF_lt (fun k hk => endF_lt hk h0) g (by omega)
      unfold plainF at h
      generalize itF (endF l · false) g k = x1 at *
      generalize itF (endF l · true) g k = x2 at *
      generalize itF (nextF l · false) g k = x3 at *
      generalize itF (nextF l · true) g k = x4 at *
      generalize itF (backF l · false) g k = x5 at *
      generalize itF (backF l · true) g k = x6 at *
      generalize firstF l = x7 at *
      by_cases k1 : key = 104
      · rw [if_pos k1] at h; by_cases j : k = 0
        · rw [if_pos j] at h; cases h
        · rw [if_neg j] at h; cases h; simp; omega
      rw [if_neg k1] at h
      by_cases k2 : key = 108
      · rw [if_pos k2] at h
        cases op
        · simp only [Bool.false_eq_true, if_false] at h
          by_cases j : l.length - 1 ≤ k
          · rw [if_pos j] at h; cases h
          · rw [if_neg j] at h; cases h; simp; omega
        · simp only [if_true] at h
          by_cases j : l.length ≤ k
          · rw [if_pos j] at h; cases h
          · rw [if_neg j] at h; cases h; simp; omega
      rw [if_neg k2] at h
      by_cases k3 : key = 48
      · rw [if_pos k3] at h; cases h; simp
      rw [if_neg k3] at h
      by_cases k4 : key = 94
      · rw [if_pos k4] at h; cases h; simp; omega
      rw [if_neg k4] at h
      by_cases k5 : key = 98
      · rw [if_pos k5] at h; by_cases j : k = 0
        · rw [if_pos j] at h; cases h
        · rw [if_neg j] at h; cases h; simp; exact ⟨e3, fun _ => e5⟩
      rw [if_neg k5] at h
      by_cases k6 : key = 66
      · rw [if_pos k6] at h; by_cases j : k = 0
        · rw [if_pos j] at h; cases h
        · rw [if_neg j] at h; cases h; simp; exact ⟨e4, fun _ => e6⟩
      rw [if_neg k6] at h
      by_cases k7 : l.length = 0
      · rw [if_pos k7] at h; cases h
      rw [if_neg k7] at h
      have e8' := e8 (by omega)
      have e9' := e9 (by omega)
      by_cases k8 : key = 36
      · rw [if_pos k8] at h; cases h; simp; omega
      rw [if_neg k8] at h
      by_cases k9 : key = 124
      · rw [if_pos k9] at h; cases h; simp; omega
      rw [if_neg k9] at h
      by_cases k10 : key = 119
      · rw [if_pos k10] at h
        cases op
        · simp only [Bool.false_eq_true, if_false] at h
          by_cases j : min x3 (l.length - 1) = k
          · rw [if_pos j] at h; cases h
          · rw [if_neg j] at h; cases h; simp; omega
        · simp only [if_true] at h
          cases h; simp; exact e1
      rw [if_neg k10] at h
      by_cases k11 : key = 87
      · rw [if_pos k11] at h
        cases op
        · simp only [Bool.false_eq_true, if_false] at h
          by_cases j : min x4 (l.length - 1) = k
          · rw [if_pos j] at h; cases h
          · rw [if_neg j] at h; cases h; simp; omega
        · simp only [if_true] at h
          cases h; simp; exact e2
      rw [if_neg k11] at h
      by_cases k12 : key = 101
      · rw [if_pos k12] at h
        by_cases j : op = false ∧ x1 = k
        · rw [if_pos j] at h; cases h
        · rw [if_neg j] at h; cases h; simp; omega
      rw [if_neg k12] at h
      by_cases k13 : key = 69
      · rw [if_pos k13] at h
        by_cases j : op = false ∧ x2 = k
        · rw [if_pos j] at h; cases h
        · rw [if_neg j] at h; cases h; simp; omega
      rw [if_neg k13] at h
      cases h
/-- A motion leads to one place. -/
theorem goR_one {l : List Int} {k : Nat} {key arg : Int} {g : Nat} {op : Bool} {o o' : Option (Nat × Bool)} (h : goR l k key arg g op o) (h' : goR l k key arg g op o') : o = o' := by
  unfold goR at h h'
  split at h
  · rename_i hf
    rw [if_pos hf] at h'
    rw [h, h']
  · rename_i hf
    rw [if_neg hf] at h'
    unfold plainR at h h'
    split at h
    · rename_i hk
      rw [if_pos hk] at h'
      rcases h with ⟨i, m, h1, rfl⟩ | ⟨h1, rfl⟩ <;> rcases h' with ⟨i', m', h2, rfl⟩ | ⟨h2, rfl⟩
      · rw [(foundP_one h1 h2).2]
      · exact absurd h2 (foundP_no h1)
      · exact absurd h1 (foundP_no h2)
      · rfl
    · rename_i hk
      rw [if_neg hk] at h'
      rw [h, h']
end Go.Proofs.Ytmhgndjmcignjaa
