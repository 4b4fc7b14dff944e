/-
  Which words end where the machine stands, and in which order.
-/
import Derived.Test.YtdkjkcegchohfaaAbE
import Derived.Test.YtdkjkcegchohfaaAbT
import Derived.Test.YtdkjkcegchohfaaAbW
namespace Go.Proofs.Ytdkjkcegchohfaa
open Go.RowKit
set_option linter.unusedVariables false

def chF (t : AC) (fall : Nat → Nat) : Nat → Nat → List Nat
  | 0, _ => []
  | f + 1, i => if i = 0 then [] else t.ends i ++ chF t fall f (fall i)
/-- The words that end at a node, and where it falls back to. -/
def chA (t : AC) (fall : Nat → Nat) (i : Nat) : List Nat := chF t fall (t.str i).length i
section
variable {t : AC} {ws : List (List Int)} {fall : Nat → Nat}
theorem chF_more (h : t.Ok ws) (hf : ∀ i, i < t.N → i ≠ 0 → FallAt t fall i) : ∀ (f g i : Nat), i < t.N → (t.str i).length ≤ f → f ≤ g → chF t fall g i = chF t fall f i
  | 0, g, i, hi, hl, hg => by
    have h1 : t.str i = [] := List.eq_nil_of_length_eq_zero (by omega)
    have h2 : i = 0 := h.inj i 0 hi h.pos (by rw [h1, h.root])
    subst h2
    cases g with
    | zero => rfl
    | succ g => simp [chF]
  | f + 1, g, i, hi, hl, hg => by
    obtain ⟨g, rfl⟩ : ∃ g', g = g' + 1 := ⟨g - 1, by omega⟩
    by_cases h0 : i = 0
    · simp [chF, h0]
    · have h1 := hf i hi h0
      have h2 := fall_less h hi h0 h1
      simp only [chF, if_neg h0]
      rw [chF_more h hf f g (fall i) h1.1 (by omega) (by omega)]
theorem chA_zero (h : t.Ok ws) : chA t fall 0 = [] := by
  unfold chA; rw [h.root]; rfl
theorem chA_step (h : t.Ok ws) (hf : ∀ i, i < t.N → i ≠ 0 → FallAt t fall i) {i : Nat} (hi : i < t.N) (h0 : i ≠ 0) : chA t fall i = t.ends i ++ chA t fall (fall i) := by
  have h1 := hf i hi h0
  have h2 := fall_less h hi h0 h1
  unfold chA
  obtain ⟨n, hn⟩ : ∃ n, (t.str i).length = n + 1 := ⟨(t.str i).length - 1, by omega⟩
  rw [hn]
  simp only [chF, if_neg h0]
  rw [chF_more h hf _ n (fall i) h1.1 (Nat.le_refl _) (by omega)]
theorem chA_spec (h : t.Ok ws) (hf : ∀ i, i < t.N → i ≠ 0 → FallAt t fall i) (hne : ∀ k, k < ws.length → gL ws k ≠ []) : ∀ (n i : Nat), i < t.N → (t.str i).length ≤ n →
    (∀ k, k ∈ chA t fall i ↔ k < ws.length ∧ gL ws k <:+ t.str i) ∧ (chA t fall i).Pairwise (fun a b => (gL ws b).length < (gL ws a).length ∨ ((gL ws a).length = (gL ws b).length ∧ a < b))
  | 0, i, hi, hl => by
    have h1 : t.str i = [] := List.eq_nil_of_length_eq_zero (by omega)
    have h2 : i = 0 := h.inj i 0 hi h.pos (by rw [h1, h.root])
    subst h2
    rw [chA_zero h]
    refine ⟨fun k => ⟨fun hk => by simp at hk, fun ⟨a, b⟩ => ?_⟩, .nil⟩
    rw [h.root] at b
    exact absurd (List.suffix_nil.1 b) (hne k a)
  | n + 1, i, hi, hl => by
    by_cases h0 : i = 0
    · subst h0
      rw [chA_zero h]
      refine ⟨fun k => ⟨fun hk => by simp at hk, fun ⟨a, b⟩ => ?_⟩, .nil⟩
      rw [h.root] at b
      exact absurd (List.suffix_nil.1 b) (hne k a)
    · have h1 := hf i hi h0
      have h2 := fall_less h hi h0 h1
      obtain ⟨k1, k2⟩ := chA_spec h hf hne n (fall i) h1.1 (by omega)
      obtain ⟨e1, e2⟩ := h.ends i hi
      rw [chA_step h hf hi h0]
      have hne2 : t.str i ≠ [] := fun e => h0 (h.inj i 0 hi h.pos (by rw [e, h.root]))
      refine ⟨fun k => ?_, List.pairwise_append.2 ⟨?_, k2, fun a ha b hb => ?_⟩⟩
      · rw [List.mem_append, e2, k1]
        constructor
        · rintro (⟨a, b⟩ | ⟨a, b⟩)
          · exact ⟨a, by rw [b]; exact List.suffix_refl _⟩
          · refine ⟨a, b.trans ?_⟩
            rw [h1.2]
            exact (lsuf_suffix _).trans (List.tail_suffix _)
        · rintro ⟨a, b⟩
          by_cases e : gL ws k = t.str i
          · exact .inl ⟨a, e⟩
          · right
            refine ⟨a, ?_⟩
            rw [h1.2]
            refine lsuf_max ?_ (h.all k a)
            cases hs : t.str i with
            | nil => exact absurd hs hne2
            | cons z u =>
              rw [hs] at b e
              rcases List.suffix_cons_iff.1 b with e' | b
              · exact absurd e' e
              · exact b
      · refine (List.Pairwise.imp_of_mem (fun {a b} ha hb hab => ?_) e1)
        have h3 := ((e2 a).1 ha).2
        have h4 := ((e2 b).1 hb).2
        exact .inr ⟨by rw [h3, h4], hab⟩
      · left
        have h3 := ((e2 a).1 ha).2
        have h4 := ((k1 b).1 hb).2.length_le
        rw [h3]; omega
end
theorem cmpI_lt {x y : Int} (h : x < y) : Lib.compareInt x y = -1 := by unfold Lib.compareInt; simp [h]
theorem cmpI_gt {x y : Int} (h : y < x) : Lib.compareInt x y = 1 := by unfold Lib.compareInt; rw [if_neg (by omega), if_pos h]
theorem cmpI_eq (x : Int) : Lib.compareInt x x = 0 := by unfold Lib.compareInt; simp
theorem szs_at {ws : List (List Int)} {k : Nat} (h : k < ws.length) : gI (szs ws) k = ((gL ws k).length : Int) := by
  unfold gI szs gL; simp [h]
theorem ord_before {ws : List (List Int)} {a b : Nat} (ha : a < ws.length) (hb : b < ws.length) (h : (gL ws b).length < (gL ws a).length ∨ ((gL ws a).length = (gL ws b).length ∧ a < b)) : ordA (szs ws) a b < 0 ∧ 0 < ordA (szs ws) b a := by
  unfold ordA orA
  rw [szs_at ha, szs_at hb]
  rcases h with h | ⟨h1, h2⟩
  · rw [cmpI_lt (show ((gL ws b).length : Int) < (gL ws a).length by omega), cmpI_gt (show ((gL ws b).length : Int) < (gL ws a).length by omega)]; simp
  · rw [h1, cmpI_eq, cmpI_lt (show (a : Int) < b by omega), cmpI_gt (show (a : Int) < b by omega)]; simp
end Go.Proofs.Ytdkjkcegchohfaa
