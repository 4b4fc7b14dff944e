/-
  Levenshtein's distance: what both begin and end with makes no difference; one step is no farther than one.
-/
import Derived.Test.YthphlghblmindaaNearF
namespace Go.Proofs.Ythphlghblmindaa
set_option linter.unusedVariables false

theorem lev_same (x : Int) (a b : List Int) : lev (x :: a) (x :: b) = lev a b := by
  have h1 : lev (x :: b) b ≤ 1 := by
    have := lev_del x b b
    rw [lev_zero.2 rfl] at this
    omega
  have h2 : lev a (x :: a) ≤ 1 := by
    have := lev_ins x a a
    rw [lev_zero.2 rfl] at this
    omega
  have h3 := lev_tri a (x :: b) b
  have h4 := lev_tri a (x :: a) b
  rw [lev_cons, if_pos rfl]
  omega
theorem lev_pre : ∀ (p a b : List Int), lev (p ++ a) (p ++ b) = lev a b
  | [], a, b => rfl
  | x :: p, a, b => by rw [List.cons_append, List.cons_append, lev_same, lev_pre p]
theorem snoc_keep {a b : List Int} {n : Nat} (h : Steps2 a b n) (x y : Int) : Steps2 (a ++ [x]) (b ++ [y]) (n + if x = y then 0 else 1) := by
  induction h with
  | nil => exact .keep x y .nil
  | keep u v h ih =>
    have := Steps2.keep u v ih
    rw [Nat.add_right_comm] at this
    exact this
  | del u h ih =>
    have := Steps2.del u ih
    rw [Nat.add_right_comm] at this
    exact this
  | ins v h ih =>
    have := Steps2.ins v ih
    rw [Nat.add_right_comm] at this
    exact this
theorem snoc_del {a b : List Int} {n : Nat} (h : Steps2 a b n) (x : Int) : Steps2 (a ++ [x]) b (n + 1) := by
  induction h with
  | nil => exact .del x .nil
  | keep u v h ih =>
    have := Steps2.keep u v ih
    rw [Nat.add_right_comm] at this
    exact this
  | del u h ih => exact .del u ih
  | ins v h ih => exact .ins v ih
theorem snoc_ins {a b : List Int} {n : Nat} (h : Steps2 a b n) (y : Int) : Steps2 a (b ++ [y]) (n + 1) := steps_symm (snoc_del (steps_symm h) y)
theorem steps_rev {a b : List Int} {n : Nat} (h : Steps2 a b n) : Steps2 a.reverse b.reverse n := by
  induction h with
  | nil => exact .nil
  | keep x y h ih => rw [List.reverse_cons, List.reverse_cons]; exact snoc_keep ih x y
  | del x h ih => rw [List.reverse_cons]; exact snoc_del ih x
  | ins y h ih => rw [List.reverse_cons]; exact snoc_ins ih y
theorem lev_rev (a b : List Int) : lev a.reverse b.reverse = lev a b := by
  refine Nat.le_antisymm (lev_le (steps_rev (lev_way a b))) ?_
  have := lev_le (steps_rev (lev_way a.reverse b.reverse))
  simpa using this
theorem dist_lev (a b : List Int) : dist a b = lev a b := lev_rev a b
theorem lev_suf (a b q : List Int) : lev (a ++ q) (b ++ q) = lev a b := by
  rw [← lev_rev, List.reverse_append, List.reverse_append, lev_pre, lev_rev]
theorem dist_mid (p a b q : List Int) : dist (p ++ a ++ q) (p ++ b ++ q) = dist a b := by
  rw [dist_lev, dist_lev, lev_suf, lev_pre]
theorem dist_ins (a : List Int) (k : Nat) (c : Int) : dist a (a.take k ++ [c] ++ a.drop k) ≤ 1 := by
  have h := dist_mid (a.take k) [] [c] (a.drop k)
  rw [List.append_nil, List.take_append_drop] at h
  rw [h, dist_lev, lev_nil]
  simp
theorem take_mid {a : List Int} {k : Nat} (h : k < a.length) : a.take k ++ [gI a k] ++ a.drop (k + 1) = a := by
  have e : gI a k = a[k] := by unfold gI; simp [h]
  rw [e, List.append_assoc, List.singleton_append, ← List.drop_eq_getElem_cons h, List.take_append_drop]
theorem dist_del {a : List Int} {k : Nat} (h : k < a.length) : dist a (a.take k ++ a.drop (k + 1)) ≤ 1 := by
  have h1 := dist_mid (a.take k) [gI a k] [] (a.drop (k + 1))
  rw [take_mid h, List.append_nil] at h1
  rw [h1, dist_lev, lev_nil']
  simp
theorem dist_set {a : List Int} {k : Nat} (h : k < a.length) (c : Int) : dist a (a.take k ++ [c] ++ a.drop (k + 1)) ≤ 1 := by
  have h1 := dist_mid (a.take k) [gI a k] [c] (a.drop (k + 1))
  rw [take_mid h] at h1
  rw [h1, dist_lev, lev_cons, lev_nil]
  split <;> simp <;> omega
/-- The statement's law. -/
theorem near_law {p a b q : List Int} (h : dist a b ≤ 1) : farV (p ++ a ++ q) (p ++ b ++ q) < 0 ∨ farV a b < 0 ∨ (farV (p ++ a ++ q) (p ++ b ++ q) = farV a b ∧ farV (p ++ a ++ q) (p ++ b ++ q) ≤ 1) := by
  by_cases h1 : farV (p ++ a ++ q) (p ++ b ++ q) < 0
  · exact .inl h1
  · by_cases h2 : farV a b < 0
    · exact .inr (.inl h2)
    · obtain ⟨e1, _⟩ := farV_pos (a := p ++ a ++ q) (b := p ++ b ++ q) (by omega)
      obtain ⟨e2, _⟩ := farV_pos (a := a) (b := b) (by omega)
      refine .inr (.inr ?_)
      rw [e1, e2, dist_mid]
      exact ⟨rfl, by omega⟩
end Go.Proofs.Ythphlghblmindaa
