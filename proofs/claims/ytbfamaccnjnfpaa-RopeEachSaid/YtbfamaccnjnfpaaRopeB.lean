/-
  rope.build: the walk; what it builds is balanced.
-/
import Derived.Test.YtbfamaccnjnfpaaRopeW
import Derived.IntWalk
namespace Go.Proofs.Ytbfamaccnjnfpaa
open Go.RowKit
set_option linter.unusedVariables false
set_option linter.unusedSimpArgs false

/-- How tall a tree of so many numbers is built. -/
def hB : Nat → Nat → Nat
  | 0, _ => 0
  | f + 1, n => if n = 0 then 0 else 1 + max (hB f (n / 2)) (hB f (n - n / 2 - 1))
theorem build_ht : ∀ (f : Nat) (l : List Int), (Tr.buildF f l).ht = hB f l.length
  | 0, l => rfl
  | f + 1, l => by
    unfold Tr.buildF hB
    by_cases h : l.length = 0
    · rw [if_pos h, if_pos h]; rfl
    · rw [if_neg h, if_neg h]
      show 1 + max (Tr.buildF f _).ht (Tr.buildF f _).ht = _
      rw [build_ht f, build_ht f, List.length_take, List.length_drop, Nat.min_eq_left (by omega), Nat.sub_add_eq]
theorem hB_step : ∀ (f n : Nat), n + 1 ≤ f → hB f n ≤ hB f (n + 1) ∧ hB f (n + 1) ≤ hB f n + 1
  | 0, n, h => by omega
  | f + 1, n, h => by
    by_cases h0 : n = 0
    · subst h0
      unfold hB
      simp
      cases f <;> simp [hB]
    · unfold hB
      rw [if_neg h0, if_neg (by omega)]
      rcases Nat.mod_two_eq_zero_or_one n with hm | hm
      · -- n = 2k
        obtain ⟨k, rfl⟩ : ∃ k, n = 2 * k := ⟨n / 2, by omega⟩
        rw [show 2 * k / 2 = k by omega, show (2 * k + 1) / 2 = k by omega, show 2 * k + 1 - k - 1 = k by omega, show 2 * k - k - 1 = k - 1 by omega]
        have := hB_step f (k - 1) (by omega)
        rw [show k - 1 + 1 = k by omega] at this
        omega
      · obtain ⟨k, rfl⟩ : ∃ k, n = 2 * k + 1 := ⟨n / 2, by omega⟩
        rw [show (2 * k + 1) / 2 = k by omega, show (2 * k + 1 + 1) / 2 = k + 1 by omega, show 2 * k + 1 + 1 - (k + 1) - 1 = k by omega, show 2 * k + 1 - k - 1 = k by omega]
        have := hB_step f k (by omega)
        omega
theorem build_spec : ∀ (f : Nat) (l : List Int), l.length ≤ f → (Tr.buildF f l).bal ∧ (Tr.buildF f l).toL = l
  | 0, l, h => by
    have : l = [] := List.eq_nil_of_length_eq_zero (by omega)
    subst this; exact ⟨trivial, rfl⟩
  | f + 1, l, h => by
    unfold Tr.buildF
    by_cases h0 : l.length = 0
    · rw [if_pos h0]
      have : l = [] := List.eq_nil_of_length_eq_zero h0
      subst this; exact ⟨trivial, rfl⟩
    · rw [if_neg h0]
      have h1 : (l.take (l.length / 2)).length = l.length / 2 := by rw [List.length_take]; omega
      have h2 : (l.drop (l.length / 2 + 1)).length = l.length - l.length / 2 - 1 := by rw [List.length_drop]; omega
      obtain ⟨a1, a2⟩ := build_spec f (l.take (l.length / 2)) (by omega)
      obtain ⟨b1, b2⟩ := build_spec f (l.drop (l.length / 2 + 1)) (by omega)
      have hl := build_ht f (l.take (l.length / 2))
      have hr := build_ht f (l.drop (l.length / 2 + 1))
      rw [h1] at hl
      rw [h2] at hr
      refine ⟨⟨a1, b1, ?_, ?_⟩, ?_⟩
      · rw [hl, hr]
        by_cases he : l.length - l.length / 2 - 1 = l.length / 2
        · rw [he]; omega
        · have := hB_step f (l.length / 2 - 1) (by omega)
          rw [show l.length / 2 - 1 + 1 = l.length / 2 by omega, show l.length / 2 - 1 = l.length - l.length / 2 - 1 by omega] at this
          omega
      · rw [hl, hr]
        by_cases he : l.length - l.length / 2 - 1 = l.length / 2
        · rw [he]; omega
        · have := hB_step f (l.length / 2 - 1) (by omega)
          rw [show l.length / 2 - 1 + 1 = l.length / 2 by omega, show l.length / 2 - 1 = l.length - l.length / 2 - 1 by omega] at this
          omega
      · rw [Tr.toL_node, a2, b2]
        have hg : gI l (l.length / 2) = l[l.length / 2]'(by omega) := by simp [gI, show l.length / 2 < l.length by omega]
        rw [hg, ← List.drop_eq_getElem_cons (by omega), List.take_append_drop]

def BuildP (f : Nat) : Prop := ∀ (l : List Int) (A : Option Addr) (n c : Nat) (w : World), Ints w A n c l → n ≤ f → n ≤ 4096 →
    Calls Try.prog 9 #[.slice A n c] w fun e w' => ∃ v, e = .returned (.pointer v) ∧ TreeAt w' v (Tr.buildF f l) ∧ Ext w w'

end Go.Proofs.Ytbfamaccnjnfpaa
