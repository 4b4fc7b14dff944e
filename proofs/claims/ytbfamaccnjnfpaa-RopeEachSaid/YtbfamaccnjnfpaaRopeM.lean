/-
  Ropes in plain Lean: balanced trees, cut and joined.
-/
import Derived.Test.YtbfamaccnjnfpaaBase
namespace Go.Proofs.Ytbfamaccnjnfpaa
set_option linter.unusedVariables false

inductive Tr where
  | nil : Tr
  | node (l : Tr) (c : Int) (r : Tr) : Tr

namespace Tr
def sz : Tr → Nat
  | nil => 0
  | node l _ r => l.sz + 1 + r.sz
def ht : Tr → Nat
  | nil => 0
  | node l _ r => 1 + max l.ht r.ht
def toL : Tr → List Int
  | nil => []
  | node l c r => l.toL ++ c :: r.toL
/-- Balanced. -/
def bal : Tr → Prop
  | nil => True
  | node l _ r => l.bal ∧ r.bal ∧ l.ht ≤ r.ht + 1 ∧ r.ht ≤ l.ht + 1
theorem toL_node (l : Tr) (c : Int) (r : Tr) : (node l c r).toL = l.toL ++ c :: r.toL := rfl
theorem len : ∀ t : Tr, t.toL.length = t.sz
  | nil => rfl
  | node l c r => by unfold toL sz; rw [List.length_append, List.length_cons, len l, len r]; omega
theorem ht_le : ∀ t : Tr, t.ht ≤ t.sz
  | nil => Nat.le_refl _
  | node l c r => by have := ht_le l; have := ht_le r; unfold ht sz; omega
theorem ht_nil {t : Tr} (h : t.ht = 0) : t = nil := by
  cases t with
  | nil => rfl
  | node l c r => simp [ht] at h
theorem sz_nil {t : Tr} (h : t.sz = 0) : t = nil := by
  cases t with
  | nil => rfl
  | node l c r => simp [sz] at h

/-- As made, where one may be two taller. -/
def level (l : Tr) (c : Int) (r : Tr) : Tr :=
  if l.ht > r.ht + 1 then
    match l with
    | nil => nil
    | node ll lc lr => if lr.ht ≤ ll.ht then node ll lc (node lr c r) else
      match lr with
      | nil => nil
      | node ml mc mr => node (node ll lc ml) mc (node mr c r)
  else if r.ht > l.ht + 1 then
    match r with
    | nil => nil
    | node rl rc rr => if rl.ht ≤ rr.ht then node (node l c rl) rc rr else
      match rl with
      | nil => nil
      | node ml mc mr => node (node l c ml) mc (node mr rc rr)
  else node l c r

/-- Join of any two trees with a character between; f is fuel. -/
def joinF : Nat → Tr → Int → Tr → Tr
  | 0, l, c, r => node l c r
  | f + 1, l, c, r =>
    if l.ht > r.ht + 1 then
      match l with
      | nil => nil
      | node ll lc lr => level ll lc (joinF f lr c r)
    else if r.ht > l.ht + 1 then
      match r with
      | nil => nil
      | node rl rc rr => level (joinF f l c rl) rc rr
    else node l c r
def join (l : Tr) (c : Int) (r : Tr) : Tr := joinF (l.sz + r.sz) l c r

def split : Tr → Nat → Tr × Tr
  | nil, _ => (nil, nil)
  | node l c r, k =>
    if k ≤ l.sz then ((l.split k).1, join (l.split k).2 c r)
    else (join l c (r.split (k - l.sz - 1)).1, (r.split (k - l.sz - 1)).2)
/-- What is ahead of the last character, and it. -/
def last : Tr → Tr × Int
  | nil => (nil, 0)
  | node l c nil => (l, c)
  | node l c (node a b d) => (level l c (last (node a b d)).1, (last (node a b d)).2)
def concat (l r : Tr) : Tr :=
  match l with
  | nil => r
  | node a b d => join (last (node a b d)).1 (last (node a b d)).2 r
def buildF : Nat → List Int → Tr
  | 0, _ => nil
  | f + 1, l => if l.length = 0 then nil else node (buildF f (l.take (l.length / 2))) (gI l (l.length / 2)) (buildF f (l.drop (l.length / 2 + 1)))
def build (l : List Int) : Tr := buildF l.length l

theorem level_L1 {ll lr r : Tr} {lc c : Int} (h1 : (node ll lc lr).ht > r.ht + 1) (h2 : lr.ht ≤ ll.ht) : level (node ll lc lr) c r = node ll lc (node lr c r) := by
  unfold level; rw [if_pos h1]; exact if_pos h2
theorem level_L2 {ll ml mr r : Tr} {lc mc c : Int} (h1 : (node ll lc (node ml mc mr)).ht > r.ht + 1) (h2 : ¬ (node ml mc mr).ht ≤ ll.ht) : level (node ll lc (node ml mc mr)) c r = node (node ll lc ml) mc (node mr c r) := by
  unfold level; rw [if_pos h1]; exact if_neg h2
theorem level_R1 {l rl rr : Tr} {rc c : Int} (h1 : (node rl rc rr).ht > l.ht + 1) (h2 : rl.ht ≤ rr.ht) : level l c (node rl rc rr) = node (node l c rl) rc rr := by
  unfold level; rw [if_neg (by omega), if_pos h1]; exact if_pos h2
theorem level_R2 {l ml mr rr : Tr} {rc mc c : Int} (h1 : (node (node ml mc mr) rc rr).ht > l.ht + 1) (h2 : ¬ (node ml mc mr).ht ≤ rr.ht) : level l c (node (node ml mc mr) rc rr) = node (node l c ml) mc (node mr rc rr) := by
  unfold level; rw [if_neg (by omega), if_pos h1]; exact if_neg h2
theorem level_M {l r : Tr} {c : Int} (h1 : ¬ l.ht > r.ht + 1) (h2 : ¬ r.ht > l.ht + 1) : level l c r = node l c r := by
  unfold level; rw [if_neg h1, if_neg h2]
theorem joinF_L {f : Nat} {ll lr r : Tr} {lc c : Int} (h1 : (node ll lc lr).ht > r.ht + 1) : joinF (f + 1) (node ll lc lr) c r = level ll lc (joinF f lr c r) := by
  show (if (node ll lc lr).ht > r.ht + 1 then level ll lc (joinF f lr c r) else _) = _
  exact if_pos h1
theorem joinF_R {f : Nat} {l rl rr : Tr} {rc c : Int} (h1 : (node rl rc rr).ht > l.ht + 1) : joinF (f + 1) l c (node rl rc rr) = level (joinF f l c rl) rc rr := by
  show (if l.ht > (node rl rc rr).ht + 1 then _ else if (node rl rc rr).ht > l.ht + 1 then level (joinF f l c rl) rc rr else _) = _
  rw [if_neg (by omega)]; exact if_pos h1
theorem joinF_M {f : Nat} {l r : Tr} {c : Int} (h1 : ¬ l.ht > r.ht + 1) (h2 : ¬ r.ht > l.ht + 1) : joinF f l c r = node l c r := by
  cases f with
  | zero => rfl
  | succ f => unfold joinF; rw [if_neg h1, if_neg h2]
theorem level_spec {l r : Tr} {c : Int} (hl : l.bal) (hr : r.bal) (h1 : l.ht ≤ r.ht + 2) (h2 : r.ht ≤ l.ht + 2) :
    (level l c r).bal ∧ (level l c r).toL = l.toL ++ c :: r.toL ∧ (level l c r).ht ≤ max l.ht r.ht + 1 ∧ max l.ht r.ht ≤ (level l c r).ht ∧ ((l.ht ≤ r.ht + 1 ∧ r.ht ≤ l.ht + 1) → (level l c r).ht = max l.ht r.ht + 1) := by
  unfold level
  split
  · rename_i hgt
    cases l with
    | nil => simp [ht] at hgt
    | node ll lc lr =>
      obtain ⟨b1, b2, b3, b4⟩ := hl
      simp only [ht] at hgt h1 h2 ⊢
      split
      · rename_i hle
        refine ⟨⟨b1, ⟨b2, hr, by omega, by omega⟩, ?_, ?_⟩, by simp [toL], ?_, ?_, ?_⟩
        all_goals (try simp only [ht])
        all_goals omega
      · rename_i hle
        cases lr with
        | nil => simp [ht] at hle
        | node ml mc mr =>
          obtain ⟨d1, d2, d3, d4⟩ := b2
          simp only [ht] at hgt h1 h2 b3 b4 hle ⊢
          refine ⟨⟨⟨b1, d1, by omega, by omega⟩, ⟨d2, hr, by omega, by omega⟩, ?_, ?_⟩, by simp [toL], ?_, ?_, ?_⟩
          all_goals (try simp only [ht])
          all_goals omega
  · rename_i hng
    split
    · rename_i hgt
      cases r with
      | nil => simp [ht] at hgt
      | node rl rc rr =>
        obtain ⟨b1, b2, b3, b4⟩ := hr
        simp only [ht] at hgt hng h1 h2 ⊢
        split
        · rename_i hle
          refine ⟨⟨⟨hl, b1, by omega, by omega⟩, b2, ?_, ?_⟩, by simp [toL], ?_, ?_, ?_⟩
          all_goals (try simp only [ht])
          all_goals omega
        · rename_i hle
          cases rl with
          | nil => simp [ht] at hle
          | node ml mc mr =>
            obtain ⟨d1, d2, d3, d4⟩ := b1
            simp only [ht] at hgt hng h1 h2 b3 b4 hle ⊢
            refine ⟨⟨⟨hl, d1, by omega, by omega⟩, ⟨d2, b2, by omega, by omega⟩, ?_, ?_⟩, by simp [toL], ?_, ?_, ?_⟩
            all_goals (try simp only [ht])
            all_goals omega
    · rename_i hng2
      refine ⟨⟨hl, hr, by omega, by omega⟩, rfl, ?_, ?_, ?_⟩
      all_goals (try simp only [ht])
      all_goals omega

theorem joinF_spec : ∀ (f : Nat) {l r : Tr} {c : Int}, l.sz + r.sz ≤ f → l.bal → r.bal →
    (joinF f l c r).bal ∧ (joinF f l c r).toL = l.toL ++ c :: r.toL ∧ max l.ht r.ht ≤ (joinF f l c r).ht ∧ (joinF f l c r).ht ≤ max l.ht r.ht + 1
  | 0, l, r, c, hf, hl, hr => by
    have := sz_nil (t := l) (by omega)
    have := sz_nil (t := r) (by omega)
    subst this
    subst l
    exact ⟨⟨trivial, trivial, by omega, by omega⟩, rfl, by simp [joinF, ht], by simp [joinF, ht]⟩
  | f + 1, l, r, c, hf, hl, hr => by
    unfold joinF
    split
    · rename_i hgt
      cases l with
      | nil => simp [ht] at hgt
      | node ll lc lr =>
        obtain ⟨b1, b2, b3, b4⟩ := hl
        simp only [sz] at hf
        obtain ⟨i1, i2, i3, i4⟩ := joinF_spec f (l := lr) (r := r) (c := c) (by omega) b2 hr
        simp only [ht] at hgt ⊢
        obtain ⟨j1, j2, j3, j4, j5⟩ := level_spec (l := ll) (r := joinF f lr c r) (c := lc) b1 i1 (by omega) (by omega)
        refine ⟨j1, by rw [j2, i2]; simp [toL], by omega, ?_⟩
        by_cases hd : (joinF f lr c r).ht ≤ ll.ht + 1
        · have := j5 ⟨by omega, hd⟩; omega
        · omega
    · rename_i hng
      split
      · rename_i hgt
        cases r with
        | nil => simp [ht] at hgt
        | node rl rc rr =>
          obtain ⟨b1, b2, b3, b4⟩ := hr
          simp only [sz] at hf
          obtain ⟨i1, i2, i3, i4⟩ := joinF_spec f (l := l) (r := rl) (c := c) (by omega) hl b1
          simp only [ht] at hgt hng ⊢
          obtain ⟨j1, j2, j3, j4, j5⟩ := level_spec (l := joinF f l c rl) (r := rr) (c := rc) i1 b2 (by omega) (by omega)
          refine ⟨j1, by rw [j2, i2]; simp [toL], by omega, ?_⟩
          by_cases hd : (joinF f l c rl).ht ≤ rr.ht + 1
          · have := j5 ⟨hd, by omega⟩; omega
          · omega
      · rename_i hng2
        refine ⟨⟨hl, hr, by omega, by omega⟩, rfl, ?_, ?_⟩
        all_goals (try simp only [ht])
        all_goals omega
theorem join_spec {l r : Tr} {c : Int} (hl : l.bal) (hr : r.bal) : (join l c r).bal ∧ (join l c r).toL = l.toL ++ c :: r.toL := by
  obtain ⟨a, b, _⟩ := joinF_spec (l.sz + r.sz) (l := l) (r := r) (c := c) (Nat.le_refl _) hl hr
  exact ⟨a, b⟩
theorem split_spec : ∀ {t : Tr} {k : Nat}, t.bal → (split t k).1.bal ∧ (split t k).2.bal ∧ (split t k).1.toL = t.toL.take k ∧ (split t k).2.toL = t.toL.drop k
  | nil, k, _ => ⟨trivial, trivial, by simp [split, toL], by simp [split, toL]⟩
  | node l c r, k, ⟨b1, b2, b3, b4⟩ => by
    unfold split
    have hl := len l
    split
    · rename_i hk
      obtain ⟨i1, i2, i3, i4⟩ := split_spec (t := l) (k := k) b1
      obtain ⟨j1, j2⟩ := join_spec (c := c) i2 b2
      refine ⟨i1, j1, ?_, ?_⟩
      · rw [i3, toL_node, List.take_append_of_le_length (by omega)]
      · rw [j2, i4, toL_node, List.drop_append_of_le_length (by omega)]
    · rename_i hk
      obtain ⟨i1, i2, i3, i4⟩ := split_spec (t := r) (k := k - l.sz - 1) b2
      obtain ⟨j1, j2⟩ := join_spec (c := c) b1 i1
      have e : k = l.toL.length + (k - l.sz - 1 + 1) := by omega
      refine ⟨j1, i2, ?_, ?_⟩
      · rw [j2, i3]; conv => rhs; rw [e]
        show _ = List.take _ (l.toL ++ c :: r.toL)
        rw [List.take_length_add_append]; rfl
      · rw [i4]; conv => rhs; rw [e]
        show _ = List.drop _ (l.toL ++ c :: r.toL)
        rw [List.drop_length_add_append]; rfl
theorem last_spec : ∀ {t : Tr}, t.bal → t ≠ nil → (last t).1.bal ∧ (last t).1.toL ++ [(last t).2] = t.toL ∧ (last t).1.ht ≤ t.ht ∧ t.ht ≤ (last t).1.ht + 1
  | nil, _, h => absurd rfl h
  | node l c nil, ⟨b1, b2, b3, b4⟩, _ => by
    refine ⟨b1, rfl, ?_, ?_⟩
    all_goals simp only [last, ht] at *
    all_goals omega
  | node l c (node a b d), ⟨b1, b2, b3, b4⟩, _ => by
    obtain ⟨i1, i2, i3, i4⟩ := last_spec (t := node a b d) b2 (by simp)
    obtain ⟨j1, j2, j3, j4, j5⟩ := level_spec (c := c) b1 i1 (by omega) (by omega)
    unfold last
    refine ⟨j1, ?_, ?_, ?_⟩
    · show (level l c (last (node a b d)).1).toL ++ [(last (node a b d)).2] = l.toL ++ c :: (node a b d).toL
      rw [j2, ← i2]; simp
    · show (level l c (last (node a b d)).1).ht ≤ 1 + max l.ht (node a b d).ht
      by_cases hd : l.ht ≤ (last (node a b d)).1.ht + 1
      · have := j5 ⟨hd, by omega⟩; omega
      · omega
    · show 1 + max l.ht (node a b d).ht ≤ (level l c (last (node a b d)).1).ht + 1
      omega
theorem concat_spec {l r : Tr} (hl : l.bal) (hr : r.bal) : (concat l r).bal ∧ (concat l r).toL = l.toL ++ r.toL := by
  unfold concat
  cases l with
  | nil => exact ⟨hr, rfl⟩
  | node a b d =>
    obtain ⟨i1, i2, _⟩ := last_spec hl (by simp)
    obtain ⟨j1, j2⟩ := join_spec (c := (last (node a b d)).2) i1 hr
    refine ⟨j1, ?_⟩
    show (join _ _ _).toL = _
    rw [j2, ← i2]; simp
end Tr
end Go.Proofs.Ytbfamaccnjnfpaa
