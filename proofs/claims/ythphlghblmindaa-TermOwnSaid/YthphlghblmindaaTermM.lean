/-
  A row of a terminal: what signs do to it, in plain words; the walk of one sign.
-/
import Derived.Test.YthphlghblmindaaTermC
namespace Go.Proofs.Ythphlghblmindaa
open Go.RowKit
set_option linter.unusedVariables false
set_option linter.unusedSimpArgs false

/-- One sign. -/
def stepR (r : List Int × Nat) (c : Int) : List Int × Nat :=
  if c = 8 then (r.1, r.2 - 1) else if c = 13 then (r.1, 0) else if c = 11 then (r.1.take r.2 ++ List.replicate (r.1.length - r.2) 32, r.2)
  else if 32 ≤ c ∧ c ≠ 127 ∧ r.2 < r.1.length then (r.1.set r.2 c, r.2 + 1) else r
def showR (r : List Int × Nat) (s : List Int) : List Int × Nat := s.foldl stepR r
/-- A row. -/
def goodR (r : List Int × Nat) : Prop := 2 ≤ r.1.length ∧ r.1.length ≤ 120 ∧ r.2 ≤ r.1.length ∧ ∀ k, k < r.1.length → goodC (gI r.1 k)
theorem gI_set {l : List Int} {k j : Nat} {v : Int} (hk : k < l.length) : gI (l.set k v) j = if j = k then v else gI l j := by
  unfold gI
  by_cases h : j = k
  · subst h; rw [if_pos rfl, List.getElem?_set_self hk]; rfl
  · rw [if_neg h, List.getElem?_set_ne (fun e => h e.symm)]
theorem step_len (r : List Int × Nat) (c : Int) (h : r.2 ≤ r.1.length) : (stepR r c).1.length = r.1.length := by
  unfold stepR
  split
  · rfl
  · split
    · rfl
    · split
      · simp; omega
      · split
        · simp
        · rfl
theorem step_good {r : List Int × Nat} {c : Int} (h : goodR r) : goodR (stepR r c) := by
  have hl := step_len r c h.2.2.1
  obtain ⟨h1, h2, h3, h4⟩ := h
  refine ⟨by omega, by omega, ?_, ?_⟩
  · rw [hl]
    unfold stepR
    split
    · simp only; omega
    · split
      · simp only; omega
      · split
        · exact h3
        · split
          · simp only; omega
          · exact h3
  · rw [hl]
    intro k hk
    unfold stepR
    split
    · exact h4 k hk
    · split
      · exact h4 k hk
      · split
        · unfold gI
          rw [List.getElem?_append]
          split
          · rw [List.getElem?_take]
            split
            · exact h4 k hk
            · rename_i hh; rw [List.length_take] at *; omega
          · rw [List.getElem?_replicate]
            split
            · exact ⟨by decide, by decide⟩
            · rename_i hh; rw [List.length_take] at *; omega
        · split
          · rename_i hc
            simp only
            rw [gI_set hc.2.2]
            split
            · exact ⟨hc.1, hc.2.1⟩
            · exact h4 k hk
          · exact h4 k hk
theorem show_good {s : List Int} : ∀ {r : List Int × Nat}, goodR r → goodR (showR r s) := by
  induction s with
  | nil => intro r h; exact h
  | cons c s ih => intro r h; exact ih (step_good h)
theorem show_len {s : List Int} : ∀ {r : List Int × Nat}, goodR r → (showR r s).1.length = r.1.length := by
  induction s with
  | nil => intro r h; rfl
  | cons c s ih => intro r h; exact (ih (step_good h)).trans (step_len r c h.2.2.1)
theorem show_app (r : List Int × Nat) (a b : List Int) : showR r (a ++ b) = showR (showR r a) b := by unfold showR; rw [List.foldl_append]
theorem show_succ {r : List Int × Nat} {s : List Int} {k : Nat} (h : k < s.length) : showR r (s.take (k + 1)) = stepR (showR r (s.take k)) (gI s k) := by
  rw [List.take_succ_eq_append_getElem h, show_app]
  simp [showR, gI, h]

/-- A row in memory: the struct in block g, its cells a row of the call's own. -/
def RowAt (w : World) (base g s n d : Nat) (r : List Int × Nat) : Prop :=
  Blk w g 34 #[.slice (some ⟨s, 0, none⟩) n d, .int .i64 r.2] ∧ OwnI w base (some ⟨s, 0, none⟩) n d r.1 ∧ s ≠ g
end Go.Proofs.Ythphlghblmindaa
