/-
  The walk of SpliceBetween.
-/
import Derived.Test.YthphlghblmindaaBtwM
namespace Go.Proofs.Ythphlghblmindaa
open Go.RowKit
set_option linter.unusedVariables false
set_option linter.unusedSimpArgs false

set_option maxHeartbeats 1000000 in
theorem between_large {A B : Option Addr} {n c q d : Nat} {w : World} (hnc : n ≤ c) (hcm : c ≤ maxLen) (hqd : q ≤ d) (hdm : d ≤ maxLen) (h : 4096 < n ∨ 4096 < q) :
    Calls Try.prog 17 #[.slice A n c, .slice B q d] w fun e' w' => e' = .returned (.tuple #[.slice none 0 0, .int .i64 2]) ∧ w = w' := by
  unfold maxLen at hcm hdm
  by_cases h1 : 4096 < n
  · go_enter Try.func17, Try.ntmps17
    go_wp2_with fail
    go_ret2
    exact ⟨rfl, rfl⟩
  · have h2 : 4096 < q := by omega
    go_enter Try.func17, Try.ntmps17
    go_wp2_with fail
    go_ret2
    exact ⟨rfl, rfl⟩

theorem btw_lit {k j : Nat} (h : btw [1, 2, 3] [1, 3] k j) : k = 1 ∧ j = 1 := by
  obtain ⟨h1, h2, h3, h4, h5⟩ := h
  simp only [List.length_cons, List.length_nil] at h1 h4 h5
  have hk : k = 0 ∨ k = 1 ∨ k = 2 := by omega
  have hj : j = 0 ∨ j = 1 ∨ j = 2 := by omega
  rcases hk with rfl | rfl | rfl
  · exact absurd rfl (h4 (by omega))
  · rcases hj with rfl | rfl | rfl
    · exact absurd rfl (h5 (by omega))
    · exact ⟨rfl, rfl⟩
    · omega
  · simp at h2

/-- What is edge-wise unlike. -/
theorem btw_edge {l m : List Int} {k j : Nat} (h : btw l m k j) (h1 : k < l.length - j) (h2 : k < m.length - j) :
    gI ((l.drop k).take (l.length - j - k)) 0 ≠ gI ((m.drop k).take (m.length - j - k)) 0 ∧ gI ((l.drop k).take (l.length - j - k)) (l.length - j - k - 1) ≠ gI ((m.drop k).take (m.length - j - k)) (m.length - j - k - 1) := by
  obtain ⟨a1, a2, a3, a4, a5⟩ := h
  have e : ∀ (x : List Int) (L i : Nat), i < L → gI ((x.drop k).take L) i = gI x (k + i) := fun x L i hi => by
    unfold gI; rw [List.getElem?_take, if_pos hi, List.getElem?_drop]
  rw [e _ _ 0 (by omega), e _ _ 0 (by omega), e _ _ _ (by omega), e _ _ _ (by omega)]
  refine ⟨a4 (by omega), ?_⟩
  have := a5 (by omega)
  rw [show k + (l.length - j - k - 1) = l.length - 1 - j by omega, show k + (m.length - j - k - 1) = m.length - 1 - j by omega]
  exact this
theorem edit_cells {w : World} {g : Nat} {s : Spl} (h : EditAt w (some ⟨g, 0, none⟩) 1 1 [s]) :
    ∃ B m d, w.cell? ⟨g, 0, none⟩ = some (.int .i64 s.f) ∧ w.cell? ⟨g, 1, none⟩ = some (.int .i64 s.t) ∧ w.cell? ⟨g, 2, none⟩ = some (.slice B m d) ∧ Ints w B m d s.x := by
  obtain ⟨ad, B, m, d, e, k0, k1, k2, k3, _⟩ := h.at_ (k := 0) (by omega)
  injection e with e
  subst e
  exact ⟨B, m, d, k0, k1, k2, k3⟩
end Go.Proofs.Ythphlghblmindaa
