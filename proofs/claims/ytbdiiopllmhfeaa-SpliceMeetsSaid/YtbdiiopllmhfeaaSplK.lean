/-
  What Over makes passes Check; over nothing, and nothing over. Plain Lean.
-/
import Derived.Test.YtbdiiopllmhfeaaSplP
namespace Go.Proofs.Ytbdiiopllmhfeaa
set_option linter.unusedVariables false

theorem form_lo {n : Int} : ∀ {e : List Spl} {last : Int}, form n last e → last ≤ n → -(n - last) ≤ delta e
  | [], last, _, h2 => by simp only [delta]; omega
  | s :: e, last, ⟨g1, g2, g3, g4, g6⟩, h2 => by
    have := form_lo g6 g3
    simp only [delta]; omega
theorem app_lenF (l : List Int) : ∀ (e : List Spl) (a : Nat) (last : Int), form l.length last e → (a : Int) ≤ last + 1 → a ≤ l.length → (∀ s ∈ e.head?, (a : Int) ≤ s.f) → ((appF l a e).length : Int) = l.length - a + delta e
  | [], a, last, _, h1, h2, _ => by
    simp only [appF, delta, List.length_drop]; omega
  | s :: e, a, last, ⟨g1, g2, g3, g4, g6⟩, h1, h2, h3 => by
    have ha := h3 s rfl
    have ih := app_lenF l e s.t.toNat s.t g6 (by omega) (by omega) (fun u hu => by
      cases e with
      | nil => cases hu
      | cons v e =>
        cases hu
        have := g6.1; omega)
    simp only [appF, delta, List.length_append]
    rw [take_part l (by omega) (by omega)]
    omega
theorem chk_of_form {n : Int} : ∀ {e : List Spl} {last size : Int}, form n last e → -1 ≤ last → last ≤ n → n ≤ 4096 → n - last - 1 ≤ size → size + delta e ≤ 4096 → chkL n last size e = 0
  | [], last, size, _, h1, h2, h3, h4, h5 => by
    simp only [delta] at h5
    simp only [chkL]; rw [if_neg (by omega)]
  | s :: e, last, size, ⟨g1, g2, g3, g4, g6⟩, h1, h2, h3, h4, h5 => by
    have hd := form_lo g6 g3
    simp only [delta] at h5
    simp only [chkL]
    rw [if_neg (by intro h; rcases h with h | h | h | h <;> first | omega | exact g4 h), if_neg (by omega)]
    exact chk_of_form g6 (by omega) g3 h3 (by omega) (by omega)
theorem chk_form4 {n : Int} : ∀ {e : List Spl} {last size : Int}, form n last e → chkL n last size e ≠ 4
  | [], last, size, _ => by simp only [chkL]; split <;> decide
  | s :: e, last, size, ⟨g1, g2, g3, g4, g6⟩ => by
    simp only [chkL]
    rw [if_neg (by intro h; rcases h with h | h | h | h <;> first | omega | exact g4 h)]
    split
    · decide
    · exact chk_form4 g6
/-- What Check tells of what Over makes. -/
theorem chk_over {M : List Int} {e : List Spl} (hN : M.length ≤ 4096) (h : form M.length (-1) e) : chkF M.length e = if (appF M 0 e).length ≤ 4096 then 0 else 2 := by
  have hl := app_lenF M e 0 (-1) h (by omega) (by omega) (fun u hu => by
    cases e with
    | nil => cases hu
    | cons v e => cases hu; have := h.1; omega)
  have hc : chkF M.length e = chkL M.length (-1) M.length e := by unfold chkF; rw [if_neg (by omega)]
  split
  · rename_i h1
    rw [hc]
    exact chk_of_form h (by omega) (by omega) (by omega) (by omega) (by omega)
  · rename_i h1
    have h4 := chk_form4 (size := (M.length : Int)) h
    rw [hc]
    rcases chkL_range (n := (M.length : Int)) (last := -1) (size := (M.length : Int)) (e := e) with h0 | h0 | h0
    · exact absurd (app_max rfl (by rw [hc]; exact h0)) (by omega)
    · exact h0
    · exact absurd h0 h4

theorem keeps_shut {b : Bld} (h : b.op = false ∧ b.out = []) : ∀ k, (b.keeps k).op = false ∧ (b.keeps k).out = []
  | 0 => h
  | k + 1 => by
    have ih := keeps_shut h k
    show (b.keeps k).keep.op = false ∧ (b.keeps k).keep.out = []
    unfold Bld.keep
    rw [if_neg (by rw [ih.1]; decide)]
    exact ⟨rfl, ih.2⟩
/-- Nothing over an edit makes nothing. -/
theorem over_nothing (n : Nat) (b : List Spl) (ahead : Bool) : overF n [] b ahead = [] := by
  have hp : ∀ s : Bld, s.put [] = s := fun s => by simp [Bld.put]
  have h : ∀ k, (ovB n [] b ahead k).op = false ∧ (ovB n [] b ahead k).out = [] := by
    intro k
    induction k with
    | zero => exact ⟨rfl, rfl⟩
    | succ k ih =>
      have hput : (ovPut [] b ahead k (ovB n [] b ahead k)).op = false ∧ (ovPut [] b ahead k (ovB n [] b ahead k)).out = [] := by
        unfold ovPut
        have ht : txt [] k = [] := rfl
        rw [ht, hp, hp]
        split <;> exact keeps_shut ih _
      show (ovStep n [] b ahead k (ovB n [] b ahead k)).op = false ∧ (ovStep n [] b ahead k (ovB n [] b ahead k)).out = []
      unfold ovStep
      have hg : gos [] k = false := rfl
      split
      · exact hput
      · rw [hg, if_neg (by decide)]
        exact keeps_shut hput 1
  exact (keeps_shut (h (n + 1)) 1).2
/-- An edit over nothing does what it did. -/
theorem over_alone (l : List Int) (n : Nat) (hl : l.length = n) (a : List Spl) (ahead : Bool) (ha : chkF n a = 0) : appF l 0 (overF n a [] ahead) = appF l 0 a ∧ chkF n (overF n a [] ahead) = 0 := by
  have hn : n ≤ 4096 := by have := (chkF_zero.1 ha).2.1; omega
  have h0 : chkF n [] = 0 := by unfold chkF; rw [if_neg (by omega)]; simp only [chkL]; rw [if_neg (by omega)]
  obtain ⟨h1, h2⟩ := over_law l n hl a [] ahead h0
  have e0 : appF l 0 [] = l := by simp [appF]
  rw [e0] at h1 h2
  obtain ⟨_, _, hg, _⟩ := chkF_zero.1 ha
  have hem := em_app l n hl a 0 (-1) hg (behind_start hg) (by omega)
  rw [Nat.sub_zero] at hem
  have hov : ∀ k i, ovE l a [] ahead k i = emA l (txt a) (gos a) k i := by
    intro k
    induction k with
    | zero => intro i; simp only [ovE, emA]; have : txt [] i = [] := rfl; rw [this]; cases ahead <;> simp
    | succ k ih =>
      intro i
      simp only [ovE, emA]
      have h5 : txt [] i = [] := rfl
      have h6 : gos [] i = false := rfl
      rw [h5, h6, ih]; cases ahead <;> simp
  have h3 : appF l 0 (overF n a [] ahead) = appF l 0 a := by rw [h1, hov, hem]
  refine ⟨h3, ?_⟩
  have hc := chk_over (M := l) (by omega) h2
  rw [hl, h3, if_pos (app_max hl ha)] at hc
  exact hc
end Go.Proofs.Ytbdiiopllmhfeaa
