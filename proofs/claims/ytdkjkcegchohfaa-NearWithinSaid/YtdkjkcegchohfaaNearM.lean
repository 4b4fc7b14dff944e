/-
  Levenshtein's distance, in plain Lean: the table's rule, that it is a distance, and its rows.
-/
import Derived.Test.YtdkjkcegchohfaaBase
namespace Go.Proofs.Ytdkjkcegchohfaa

/-- How far: the least number of steps, by the first elements. -/
def lev : List Int → List Int → Nat
  | [], b => b.length
  | x :: a, [] => (x :: a).length
  | x :: a, y :: b => min (lev a b + if x = y then 0 else 1) (min (lev a (y :: b) + 1) (lev (x :: a) b + 1))
termination_by a b => a.length + b.length

theorem lev_nil (b : List Int) : lev [] b = b.length := by rw [lev]
theorem lev_nil' (a : List Int) : lev a [] = a.length := by
  cases a with
  | nil => rw [lev]
  | cons x a => rw [lev]
theorem lev_cons (x y : Int) (a b : List Int) : lev (x :: a) (y :: b) = min (lev a b + if x = y then 0 else 1) (min (lev a (y :: b) + 1) (lev (x :: a) b + 1)) := by rw [lev]

/-- Steps that make the one list the other. -/
inductive Steps2 : List Int → List Int → Nat → Prop
  | nil : Steps2 [] [] 0
  | keep (x y : Int) {a b : List Int} {n : Nat} : Steps2 a b n → Steps2 (x :: a) (y :: b) (n + if x = y then 0 else 1)
  | del (x : Int) {a b : List Int} {n : Nat} : Steps2 a b n → Steps2 (x :: a) b (n + 1)
  | ins (y : Int) {a b : List Int} {n : Nat} : Steps2 a b n → Steps2 a (y :: b) (n + 1)

theorem steps_nil : ∀ b : List Int, Steps2 [] b b.length
  | [] => .nil
  | y :: b => .ins y (steps_nil b)
theorem steps_nil' : ∀ a : List Int, Steps2 a [] a.length
  | [] => .nil
  | x :: a => .del x (steps_nil' a)

theorem lev_steps (s : Nat) : ∀ a b : List Int, a.length + b.length ≤ s → Steps2 a b (lev a b) := by
  induction s with
  | zero =>
    intro a b h
    obtain rfl : a = [] := List.eq_nil_of_length_eq_zero (by omega)
    obtain rfl : b = [] := List.eq_nil_of_length_eq_zero (by omega)
    rw [lev_nil]; exact .nil
  | succ s ih =>
    intro a b h
    cases a with
    | nil => rw [lev_nil]; exact steps_nil b
    | cons x a =>
      cases b with
      | nil => rw [lev_nil']; exact steps_nil' _
      | cons y b =>
        simp only [List.length_cons] at h
        rw [lev_cons]
        have h1 := Steps2.keep x y (ih a b (by omega))
        have h2 := Steps2.del x (ih a (y :: b) (by simp; omega))
        have h3 := Steps2.ins y (ih (x :: a) b (by simp; omega))
        generalize (lev a b + if x = y then 0 else 1) = p at *
        generalize lev a (y :: b) + 1 = q at *
        generalize lev (x :: a) b + 1 = r at *
        rcases Nat.le_total p (min q r) with k | k
        · rw [Nat.min_eq_left k]; exact h1
        · rw [Nat.min_eq_right k]
          rcases Nat.le_total q r with k' | k'
          · rw [Nat.min_eq_left k']; exact h2
          · rw [Nat.min_eq_right k']; exact h3

theorem lev_del (x : Int) (a b : List Int) : lev (x :: a) b ≤ lev a b + 1 := by
  cases b with
  | nil => rw [lev_nil', lev_nil']; simp
  | cons y b => rw [lev_cons]; omega
theorem lev_ins (y : Int) (a b : List Int) : lev a (y :: b) ≤ lev a b + 1 := by
  cases a with
  | nil => rw [lev_nil, lev_nil]; simp
  | cons x a => rw [lev_cons]; omega

/-- No way is shorter. -/
theorem lev_le {a b : List Int} {n : Nat} (h : Steps2 a b n) : lev a b ≤ n := by
  induction h with
  | nil => rw [lev_nil]; simp
  | keep x y h ih => rw [lev_cons]; omega
  | del x h ih => exact Nat.le_trans (lev_del x _ _) (Nat.add_le_add_right ih 1)
  | ins y h ih => exact Nat.le_trans (lev_ins y _ _) (Nat.add_le_add_right ih 1)

theorem lev_way (a b : List Int) : Steps2 a b (lev a b) := lev_steps _ a b (Nat.le_refl _)

theorem steps_symm {a b : List Int} {n : Nat} (h : Steps2 a b n) : Steps2 b a n := by
  induction h with
  | nil => exact .nil
  | keep x y h ih =>
    have := Steps2.keep y x ih
    simpa only [eq_comm] using this
  | del x h ih => exact .ins x ih
  | ins y h ih => exact .del y ih
theorem lev_comm (a b : List Int) : lev a b = lev b a :=
  Nat.le_antisymm (lev_le (steps_symm (lev_way b a))) (lev_le (steps_symm (lev_way a b)))

theorem steps_refl : ∀ a : List Int, Steps2 a a 0
  | [] => .nil
  | x :: a => by
    have := Steps2.keep x x (steps_refl a)
    simpa using this
theorem steps_zero {a b : List Int} {n : Nat} (h : Steps2 a b n) : n = 0 → a = b := by
  induction h with
  | nil => intro _; rfl
  | keep x y h ih =>
    intro e
    by_cases hx : x = y
    · rw [hx, ih (by omega)]
    · rw [if_neg hx] at e; omega
  | del x h ih => intro e; omega
  | ins y h ih => intro e; omega
theorem lev_zero {a b : List Int} : lev a b = 0 ↔ a = b :=
  ⟨fun h => steps_zero (lev_way a b) h, fun h => by subst h; have := lev_le (steps_refl a); omega⟩

theorem steps_trans (s : Nat) : ∀ {a b c : List Int} {m n : Nat}, Steps2 a b m → Steps2 b c n → a.length + b.length + c.length ≤ s → ∃ k, k ≤ m + n ∧ Steps2 a c k := by
  induction s with
  | zero =>
    intro a b c m n h1 h2 hs
    obtain rfl : a = [] := List.eq_nil_of_length_eq_zero (by omega)
    obtain rfl : c = [] := List.eq_nil_of_length_eq_zero (by omega)
    exact ⟨0, by omega, .nil⟩
  | succ s ih =>
    intro a b c m n h1 h2 hs
    cases h2 with
    | ins z h2 =>
      simp only [List.length_cons] at hs
      obtain ⟨k, hk, w⟩ := ih h1 h2 (by omega)
      exact ⟨k + 1, by omega, .ins z w⟩
    | nil =>
      exact ⟨m, by omega, h1⟩
    | keep y z h2 =>
      simp only [List.length_cons] at hs
      cases h1 with
      | keep x _ h1 =>
        simp only [List.length_cons] at hs
        obtain ⟨k, hk, w⟩ := ih h1 h2 (by omega)
        refine ⟨_, ?_, .keep x z w⟩
        by_cases e1 : x = y <;> by_cases e2 : y = z <;> by_cases e3 : x = z <;> simp_all <;> omega
      | del x h1 =>
        simp only [List.length_cons] at hs
        obtain ⟨k, hk, w⟩ := ih h1 (.keep y z h2) (by simp only [List.length_cons]; omega)
        exact ⟨k + 1, by omega, .del x w⟩
      | ins _ h1 =>
        obtain ⟨k, hk, w⟩ := ih h1 h2 (by omega)
        exact ⟨k + 1, by omega, .ins z w⟩
    | del y h2 =>
      simp only [List.length_cons] at hs
      cases h1 with
      | keep x _ h1 =>
        simp only [List.length_cons] at hs
        obtain ⟨k, hk, w⟩ := ih h1 h2 (by omega)
        exact ⟨k + 1, by omega, .del x w⟩
      | del x h1 =>
        simp only [List.length_cons] at hs
        obtain ⟨k, hk, w⟩ := ih h1 (.del y h2) (by simp only [List.length_cons]; omega)
        exact ⟨k + 1, by omega, .del x w⟩
      | ins _ h1 =>
        obtain ⟨k, hk, w⟩ := ih h1 h2 (by omega)
        exact ⟨k, by omega, w⟩
theorem lev_tri (a b c : List Int) : lev a c ≤ lev a b + lev b c := by
  obtain ⟨k, hk, w⟩ := steps_trans _ (lev_way a b) (lev_way b c) (Nat.le_refl _)
  have := lev_le w
  omega
theorem steps_len {a b : List Int} {n : Nat} (h : Steps2 a b n) : a.length ≤ b.length + n ∧ b.length ≤ a.length + n := by
  induction h with
  | nil => simp
  | keep x y h ih => simp only [List.length_cons]; omega
  | del x h ih => simp only [List.length_cons]; omega
  | ins y h ih => simp only [List.length_cons]; omega
theorem lev_low (a b : List Int) : a.length ≤ b.length + lev a b ∧ b.length ≤ a.length + lev a b := steps_len (lev_way a b)
theorem lev_high : ∀ a b : List Int, lev a b ≤ max a.length b.length
  | [], b => by rw [lev_nil]; omega
  | x :: a, [] => by rw [lev_nil']; omega
  | x :: a, y :: b => by
    have := lev_high a b
    rw [lev_cons]
    simp only [List.length_cons]
    split <;> omega

/-- The table: the first i of a against the first j of b. -/
def dt (a b : List Int) (i j : Nat) : Nat := lev (a.take i).reverse (b.take j).reverse
theorem take_rev {a : List Int} {i : Nat} (h : i < a.length) : (a.take (i + 1)).reverse = gI a i :: (a.take i).reverse := by
  rw [List.take_succ_eq_append_getElem h, List.reverse_append]
  simp [gI, h]
theorem dt_zero (a b : List Int) (j : Nat) (h : j ≤ b.length) : dt a b 0 j = j := by
  unfold dt; simp [lev_nil]; omega
theorem dt_zero' (a b : List Int) (i : Nat) (h : i ≤ a.length) : dt a b i 0 = i := by
  unfold dt; simp [lev_nil']; omega
theorem dt_succ {a b : List Int} {i j : Nat} (hi : i < a.length) (hj : j < b.length) :
    dt a b (i + 1) (j + 1) = min (dt a b i j + if gI a i = gI b j then 0 else 1) (min (dt a b i (j + 1) + 1) (dt a b (i + 1) j + 1)) := by
  unfold dt
  rw [take_rev hi, take_rev hj, lev_cons]
theorem dt_le (a b : List Int) (i j : Nat) : dt a b i j ≤ max i j := by
  have := lev_high (a.take i).reverse (b.take j).reverse
  unfold dt
  simp at this
  omega

/-- A row under way: up to place j of the next round. -/
def drow (a b : List Int) (i j : Nat) : List Int := (List.range (b.length + 1)).map fun t => if t ≤ j then (dt a b (i + 1) t : Int) else (dt a b i t : Int)
/-- A whole row. -/
def drowW (a b : List Int) (i : Nat) : List Int := (List.range (b.length + 1)).map fun t => (dt a b i t : Int)
/-- The row that is laid first. -/
def drow0 (b : List Int) (k : Nat) : List Int := (List.range (b.length + 1)).map fun t => if t < k then (t : Int) else 0

theorem drow_len (a b : List Int) (i j : Nat) : (drow a b i j).length = b.length + 1 := by simp [drow]
theorem drowW_len (a b : List Int) (i : Nat) : (drowW a b i).length = b.length + 1 := by simp [drowW]
theorem drow0_start (b : List Int) : drow0 b 0 = List.replicate (b.length + 1) 0 := by
  apply List.ext_getElem
  · simp [drow0]
  · intro t h1 h2; simp [drow0]
theorem drow0_end (a b : List Int) {k : Nat} (h : b.length + 1 ≤ k) : drow0 b k = drowW a b 0 := by
  apply List.ext_getElem
  · simp [drow0, drowW]
  · intro t h1 h2
    simp [drow0] at h1
    simp [drow0, drowW]
    rw [if_pos (by omega), dt_zero a b t (by omega)]
theorem drow0_set (b : List Int) (k : Nat) : (drow0 b k).set k (k : Int) = drow0 b (k + 1) := by
  apply List.ext_getElem
  · simp [drow0]
  · intro t h1 h2
    rw [List.getElem_set]
    simp [drow0]
    by_cases e : k = t
    · subst e; simp
    · rw [if_neg e]
      by_cases h : t < k
      · rw [if_pos h, if_pos (by omega)]
      · rw [if_neg h, if_neg (by omega)]
theorem drowW_set (a b : List Int) {i : Nat} (h : i < a.length) : (drowW a b i).set 0 ((i : Int) + 1) = drow a b i 0 := by
  apply List.ext_getElem
  · simp [drow, drowW]
  · intro t h1 h2
    rw [List.getElem_set]
    simp [drow, drowW]
    by_cases e : t = 0
    · subst e; simp [dt_zero' a b (i + 1) (by omega)]
    · rw [if_neg (by omega), if_neg e]
theorem drow_set (a b : List Int) (i j : Nat) : (drow a b i j).set (j + 1) (dt a b (i + 1) (j + 1)) = drow a b i (j + 1) := by
  apply List.ext_getElem
  · simp [drow]
  · intro t h1 h2
    rw [List.getElem_set]
    simp [drow]
    by_cases e : j + 1 = t
    · subst e; simp
    · rw [if_neg e]
      by_cases h : t ≤ j
      · rw [if_pos h, if_pos (by omega)]
      · rw [if_neg h, if_neg (by omega)]
theorem drow_end (a b : List Int) (i : Nat) : drow a b i b.length = drowW a b (i + 1) := by
  apply List.ext_getElem
  · simp [drow, drowW]
  · intro t h1 h2
    simp [drow] at h1
    simp [drow, drowW]
    omega
theorem drow_at (a b : List Int) {i j t : Nat} (h : t ≤ b.length) : gI (drow a b i j) t = if t ≤ j then (dt a b (i + 1) t : Int) else (dt a b i t : Int) := by
  simp [gI, drow, show t < b.length + 1 by omega]
theorem drowW_at (a b : List Int) {i t : Nat} (h : t ≤ b.length) : gI (drowW a b i) t = (dt a b i t : Int) := by
  simp [gI, drowW, show t < b.length + 1 by omega]
end Go.Proofs.Ytdkjkcegchohfaa
