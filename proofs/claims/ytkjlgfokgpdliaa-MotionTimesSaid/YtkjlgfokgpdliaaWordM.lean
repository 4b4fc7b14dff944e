/-
  Words of a line, in plain Lean: kinds, and where a run of one kind ends.
-/
import Derived.Test.YtkjlgfokgpdliaaBase
namespace Go.Proofs.Ytkjlgfokgpdliaa

/-- A character's kind: 0 blank, 1 word, 2 sign. -/
def kindF (c : Int) (big : Bool) : Int :=
  if c = 32 ∨ c = 9 then 0 else if big = true ∨ (97 ≤ c ∧ c ≤ 122) ∨ (65 ≤ c ∧ c ≤ 90) ∨ (48 ≤ c ∧ c ≤ 57) ∨ c = 95 ∨ 128 ≤ c then 1 else 2
theorem kindF_bd (c : Int) (big : Bool) : 0 ≤ kindF c big ∧ kindF c big ≤ 2 := by unfold kindF; split <;> (try split) <;> omega
/-- The kind at a place; -1 outside. -/
def kindAt (l : List Int) (big : Bool) (k : Int) : Int := if 0 ≤ k ∧ k < l.length then kindF (gI l k.toNat) big else -1
theorem kindAt_in {l : List Int} {big : Bool} {k : Nat} (h : k < l.length) : kindAt l big k = kindF (gI l k) big := by
  unfold kindAt; rw [if_pos (by omega)]; rfl
theorem kindAt_out {l : List Int} {big : Bool} {k : Int} (h : k < 0 ∨ (l.length : Int) ≤ k) : kindAt l big k = -1 := by
  unfold kindAt; rw [if_neg (by omega)]
theorem kindAt_bd (l : List Int) (big : Bool) (k : Int) : -1 ≤ kindAt l big k ∧ kindAt l big k ≤ 2 := by
  unfold kindAt
  split
  · have := kindF_bd (gI l k.toNat) big; omega
  · omega

/-- Over all of one kind, to the right. -/
def overR (l : List Int) (big : Bool) (kind : Int) : Nat → Nat → Nat
  | 0, k => k
  | f + 1, k => if kindAt l big k = kind then overR l big kind f (k + 1) else k
/-- .. with as many steps as there are places. -/
def runR (l : List Int) (big : Bool) (kind : Int) (k : Nat) : Nat := overR l big kind (l.length + 1 - k) k
/-- To the left: m is the place and one more. -/
def runL (l : List Int) (big : Bool) (kind : Int) : Nat → Nat
  | 0 => 0
  | m + 1 => if kindAt l big m = kind then runL l big kind m else m + 1

theorem overR_spec {l : List Int} {big : Bool} {kind : Int} (hk : 0 ≤ kind) : ∀ (f k : Nat), l.length + 1 - k ≤ f →
    k ≤ overR l big kind f k ∧ (∀ i, k ≤ i → i < overR l big kind f k → kindAt l big i = kind) ∧ kindAt l big (overR l big kind f k) ≠ kind ∧ (overR l big kind f k ≤ l.length ∨ overR l big kind f k = k)
  | 0, k, h => by
    refine ⟨Nat.le_refl _, fun i h1 h2 => absurd h2 (by show ¬ i < k; omega), ?_, .inr rfl⟩
    show kindAt l big k ≠ kind
    rw [kindAt_out (by omega)]; omega
  | f + 1, k, h => by
    unfold overR
    split
    · rename_i h1
      have hlt : k < l.length := by
        rcases Nat.lt_or_ge k l.length with h2 | h2
        · exact h2
        · rw [kindAt_out (by omega)] at h1; omega
      obtain ⟨a, b, c, d⟩ := overR_spec (l := l) (big := big) hk f (k + 1) (by omega)
      refine ⟨by omega, fun i h2 h3 => ?_, c, ?_⟩
      · rcases Nat.lt_or_ge k i with h4 | h4
        · exact b i (by omega) h3
        · obtain rfl : i = k := by omega
          exact h1
      · rcases d with d | d
        · exact .inl d
        · exact .inl (by omega)
    · rename_i h1
      exact ⟨Nat.le_refl _, fun i h2 h3 => absurd h3 (by omega), h1, .inr rfl⟩
theorem runR_spec {l : List Int} {big : Bool} {kind : Int} (hk : 0 ≤ kind) (k : Nat) :
    k ≤ runR l big kind k ∧ (∀ i, k ≤ i → i < runR l big kind k → kindAt l big i = kind) ∧ kindAt l big (runR l big kind k) ≠ kind ∧ (runR l big kind k ≤ l.length ∨ runR l big kind k = k) :=
  overR_spec hk _ _ (Nat.le_refl _)
theorem runR_eq {l : List Int} {big : Bool} {kind : Int} (hk : 0 ≤ kind) {k j : Nat} (h1 : k ≤ j) (h2 : ∀ i, k ≤ i → i < j → kindAt l big i = kind) (h3 : kindAt l big j ≠ kind) : runR l big kind k = j := by
  obtain ⟨a, b, c, _⟩ := runR_spec (l := l) (big := big) hk k
  rcases Nat.lt_trichotomy (runR l big kind k) j with h | h | h
  · exact absurd (h2 _ a h) c
  · exact h
  · exact absurd (b j h1 h) h3
theorem runL_spec {l : List Int} {big : Bool} {kind : Int} : ∀ m : Nat,
    runL l big kind m ≤ m ∧ (∀ i : Nat, runL l big kind m ≤ i → i < m → kindAt l big i = kind) ∧ (runL l big kind m = 0 ∨ kindAt l big ((runL l big kind m : Int) - 1) ≠ kind)
  | 0 => ⟨Nat.le_refl _, fun i h1 h2 => absurd h2 (by omega), .inl rfl⟩
  | m + 1 => by
    unfold runL
    split
    · rename_i h1
      obtain ⟨a, b, c⟩ := runL_spec (l := l) (big := big) (kind := kind) m
      refine ⟨by omega, fun i h2 h3 => ?_, c⟩
      rcases Nat.lt_or_ge i m with h4 | h4
      · exact b i h2 h4
      · obtain rfl : i = m := by omega
        exact h1
    · rename_i h1
      refine ⟨Nat.le_refl _, fun i h2 h3 => absurd h3 (by omega), .inr ?_⟩
      rw [show ((m + 1 : Nat) : Int) - 1 = m by omega]
      exact h1
theorem runL_eq {l : List Int} {big : Bool} {kind : Int} {m j : Nat} (h1 : j ≤ m) (h2 : ∀ i : Nat, j ≤ i → i < m → kindAt l big i = kind) (h3 : j = 0 ∨ kindAt l big ((j : Int) - 1) ≠ kind) : runL l big kind m = j := by
  obtain ⟨a, b, c⟩ := runL_spec (l := l) (big := big) (kind := kind) m
  rcases Nat.lt_trichotomy (runL l big kind m) j with h | h | h
  · rcases h3 with h3 | h3
    · omega
    · have := b (j - 1) (by omega) (by omega)
      rw [show ((j - 1 : Nat) : Int) = (j : Int) - 1 by omega] at this
      exact absurd this h3
  · exact h
  · rcases c with c | c
    · omega
    · have := h2 (runL l big kind m - 1) (by omega) (by omega)
      rw [show ((runL l big kind m - 1 : Nat) : Int) = (runL l big kind m : Int) - 1 by omega] at this
      exact absurd this c

/-- The beginning of the next word. -/
def nextF (l : List Int) (k : Nat) (big : Bool) : Nat := runR l big 0 (if 0 < kindAt l big k then runR l big (kindAt l big k) k else k)
/-- The beginning of the word behind. -/
def backF (l : List Int) (k : Nat) (big : Bool) : Nat :=
  if runL l big 0 k = 0 then 0 else runL l big (kindAt l big ((runL l big 0 k : Int) - 1)) (runL l big 0 k)
/-- The end of a word. -/
def endF (l : List Int) (k : Nat) (big : Bool) : Nat :=
  if l.length ≤ runR l big 0 (k + 1) then l.length - 1 else runR l big (kindAt l big (runR l big 0 (k + 1))) (runR l big 0 (k + 1)) - 1
end Go.Proofs.Ytkjlgfokgpdliaa
