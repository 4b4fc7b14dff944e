/-
  Edits of a line in plain words: check, apply, undo; what is undone is as it was.
-/
import Derived.Test.YtmhgndjmcignjaaZJ1

namespace Go.Proofs.Ytmhgndjmcignjaa
set_option linter.unusedVariables false
set_option linter.unusedSimpArgs false

/-- A splice: from, to, text. -/
structure Spl where
  f : Int
  t : Int
  x : List Int

/-- The loop of Check. -/
def chkL (n : Int) : Int → Int → List Spl → Int
  | _, size, [] => if 4096 < size then 2 else 0
  | last, size, s :: e =>
    if s.f ≤ last ∨ s.t < s.f ∨ n < s.t ∨ (s.f = s.t ∧ s.x.length = 0) then 4
    else if 4096 < s.x.length ∨ 8192 < size - (s.t - s.f) + s.x.length then 2
    else chkL n s.t (size - (s.t - s.f) + s.x.length) e
def chkF (n : Int) (e : List Spl) : Int := if n < 0 ∨ 4096 < n then 1 else chkL n (-1) n e

/-- An edit in its right form, behind 'last'. -/
def good (n : Int) : Int → List Spl → Prop
  | _, [] => True
  | last, s :: e => last < s.f ∧ s.f ≤ s.t ∧ s.t ≤ n ∧ ¬ (s.f = s.t ∧ s.x.length = 0) ∧ s.x.length ≤ 4096 ∧ good n s.t e
/-- What it adds. -/
def delta : List Spl → Int
  | [] => 0
  | s :: e => s.x.length - (s.t - s.f) + delta e
/-- Never too large. -/
def fits (size : Int) : List Spl → Prop
  | [] => size ≤ 4096
  | s :: e => size - (s.t - s.f) + s.x.length ≤ 8192 ∧ fits (size - (s.t - s.f) + s.x.length) e

theorem chkL_zero {n : Int} : ∀ {e : List Spl} {last size : Int}, chkL n last size e = 0 ↔ good n last e ∧ fits size e
  | [], last, size => by
    simp only [chkL, good, fits, true_and]
    split <;> omega
  | s :: e, last, size => by
    simp only [chkL, good, fits]
    split
    · simp only [Int.reduceEq, false_iff]
      omega
    · split
      · simp only [Int.reduceEq, false_iff]
        omega
      · rw [chkL_zero]
        constructor
        · rintro ⟨h1, h2⟩
          exact ⟨⟨by omega, by omega, by omega, by omega, by omega, h1⟩, by omega, h2⟩
        · rintro ⟨⟨_, _, _, _, _, h1⟩, _, h2⟩
          exact ⟨h1, h2⟩
theorem chkF_zero {n : Int} {e : List Spl} : chkF n e = 0 ↔ 0 ≤ n ∧ n ≤ 4096 ∧ good n (-1) e ∧ fits n e := by
  unfold chkF
  split
  · constructor
    · intro h; cases h
    · omega
  · rw [chkL_zero]
    constructor
    · rintro ⟨h1, h2⟩; exact ⟨by omega, by omega, h1, h2⟩
    · rintro ⟨_, _, h1, h2⟩; exact ⟨h1, h2⟩
theorem chkL_range {n : Int} : ∀ {e : List Spl} {last size : Int}, chkL n last size e = 0 ∨ chkL n last size e = 2 ∨ chkL n last size e = 4
  | [], last, size => by simp only [chkL]; split <;> simp
  | s :: e, last, size => by
    simp only [chkL]
    split
    · simp
    · split
      · simp
      · exact chkL_range

/-- Apply, from a place on. -/
def appF (l : List Int) : Nat → List Spl → List Int
  | at_, [] => l.drop at_
  | at_, s :: e => (l.drop at_).take (s.f.toNat - at_) ++ s.x ++ appF l s.t.toNat e
/-- Undo, so far moved. -/
def undF (l : List Int) : Int → List Spl → List Spl
  | _, [] => []
  | moved, s :: e => ⟨s.f + moved, s.f + moved + s.x.length, (l.drop s.f.toNat).take (s.t.toNat - s.f.toNat)⟩ :: undF l (moved + (s.x.length - (s.t - s.f))) e

theorem take_part (l : List Int) {a b : Nat} (h : a ≤ b) (hb : b ≤ l.length) : ((l.drop a).take (b - a)).length = b - a := by
  rw [List.length_take, List.length_drop]; omega
theorem cut_two (l : List Int) {a b : Nat} (h : a ≤ b) : (l.drop a).take (b - a) ++ l.drop b = l.drop a := by
  have : l.drop b = (l.drop a).drop (b - a) := by rw [List.drop_drop]; congr 1; omega
  rw [this, List.take_append_drop]

theorem good_mono {n last last' : Int} (h : last' ≤ last) : ∀ {e : List Spl}, good n last e → good n last' e
  | [], _ => trivial
  | s :: e, ⟨h1, r⟩ => ⟨by omega, r⟩

theorem app_len (l : List Int) : ∀ (e : List Spl) (a : Nat) (last : Int), good l.length last e → (a : Int) ≤ last + 1 → a ≤ l.length → (∀ s ∈ e.head?, (a : Int) ≤ s.f) → ((appF l a e).length : Int) = l.length - a + delta e
  | [], a, last, _, h1, h2, _ => by
    simp only [appF, delta, List.length_drop]; omega
  | s :: e, a, last, ⟨g1, g2, g3, g4, g5, g6⟩, h1, h2, h3 => by
    have ha := h3 s rfl
    have ih := app_len l e s.t.toNat s.t g6 (by omega) (by omega) (fun u hu => by
      cases e with
      | nil => cases hu
      | cons v e =>
        cases hu
        have := g6.1; omega)
    simp only [appF, delta, List.length_append]
    rw [take_part l (by omega) (by omega)]
    omega

theorem back_app (l : List Int) : ∀ (e : List Spl) (a : Nat) (last moved : Int) (P : List Int), good l.length last e → (∀ s ∈ e.head?, (a : Int) ≤ s.f) → (P.length : Int) = a + moved →
    appF (P ++ appF l a e) P.length (undF l moved e) = l.drop a
  | [], a, last, moved, P, _, _, hP => by
    simp [appF, undF]
  | s :: e, a, last, moved, P, ⟨g1, g2, g3, g4, g5, g6⟩, h3, hP => by
    have ha := h3 s rfl
    have hnx : ∀ u ∈ e.head?, ((s.t.toNat : Nat) : Int) ≤ u.f := fun u hu => by
      cases e with
      | nil => cases hu
      | cons v e =>
        cases hu
        have := g6.1; omega
    have hlen := take_part l (a := a) (b := s.f.toNat) (by omega) (by omega)
    have ih := back_app l e s.t.toNat s.t (moved + (s.x.length - (s.t - s.f))) (P ++ ((l.drop a).take (s.f.toNat - a) ++ s.x)) g6 hnx (by
      rw [List.length_append, List.length_append, hlen]; omega)
    have hpl : (P ++ ((l.drop a).take (s.f.toNat - a) ++ s.x)).length = (s.f + moved + s.x.length).toNat := by
      rw [List.length_append, List.length_append, hlen]; omega
    rw [hpl] at ih
    simp only [undF, appF]
    have e1 : (s.f + moved).toNat - P.length = s.f.toNat - a := by omega
    have e2 : P ++ ((l.drop a).take (s.f.toNat - a) ++ s.x ++ appF l s.t.toNat e) = P ++ ((l.drop a).take (s.f.toNat - a) ++ s.x) ++ appF l s.t.toNat e := by simp
    rw [e1, e2, ih]
    rw [← e2, List.drop_left]
    have e3 : ((l.drop a).take (s.f.toNat - a) ++ s.x ++ appF l s.t.toNat e).take (s.f.toNat - a) = (l.drop a).take (s.f.toNat - a) := by
      rw [List.append_assoc]
      have := List.take_left (l₁ := (l.drop a).take (s.f.toNat - a)) (l₂ := s.x ++ appF l s.t.toNat e)
      rw [hlen] at this
      exact this
    rw [e3, List.append_assoc, cut_two l (by omega), cut_two l (by omega)]

theorem back_und (l : List Int) : ∀ (e : List Spl) (a : Nat) (last moved : Int) (P : List Int), good l.length last e → (∀ s ∈ e.head?, (a : Int) ≤ s.f) → (P.length : Int) = a + moved →
    undF (P ++ appF l a e) (-moved) (undF l moved e) = e
  | [], a, last, moved, P, _, _, hP => by simp [undF]
  | s :: e, a, last, moved, P, ⟨g1, g2, g3, g4, g5, g6⟩, h3, hP => by
    have ha := h3 s rfl
    have hnx : ∀ u ∈ e.head?, ((s.t.toNat : Nat) : Int) ≤ u.f := fun u hu => by
      cases e with
      | nil => cases hu
      | cons v e =>
        cases hu
        have := g6.1; omega
    have hlen := take_part l (a := a) (b := s.f.toNat) (by omega) (by omega)
    have ih := back_und l e s.t.toNat s.t (moved + (s.x.length - (s.t - s.f))) (P ++ ((l.drop a).take (s.f.toNat - a) ++ s.x)) g6 hnx (by
      rw [List.length_append, List.length_append, hlen]; omega)
    have hlg := take_part l (a := s.f.toNat) (b := s.t.toNat) (by omega) (by omega)
    simp only [undF, appF]
    have e2 : P ++ ((l.drop a).take (s.f.toNat - a) ++ s.x ++ appF l s.t.toNat e) = P ++ ((l.drop a).take (s.f.toNat - a) ++ s.x) ++ appF l s.t.toNat e := by simp
    have e4 : -moved + (((l.drop s.f.toNat).take (s.t.toNat - s.f.toNat)).length - (s.f + moved + s.x.length - (s.f + moved))) = -(moved + (s.x.length - (s.t - s.f))) := by
      rw [hlg]; omega
    rw [e4, e2, ih]
    have e5 : (P ++ ((l.drop a).take (s.f.toNat - a) ++ s.x) ++ appF l s.t.toNat e).drop (s.f + moved).toNat = s.x ++ appF l s.t.toNat e := by
      have : (P ++ (l.drop a).take (s.f.toNat - a)).length = (s.f + moved).toNat := by rw [List.length_append, hlen]; omega
      rw [← this]
      have e6 : P ++ ((l.drop a).take (s.f.toNat - a) ++ s.x) ++ appF l s.t.toNat e = (P ++ (l.drop a).take (s.f.toNat - a)) ++ (s.x ++ appF l s.t.toNat e) := by simp
      rw [e6, List.drop_left]
    have e7 : (s.f + moved + s.x.length).toNat - (s.f + moved).toNat = s.x.length := by omega
    rw [e5, e7, List.take_left, hlg]
    congr 1
    obtain ⟨f, t, x⟩ := s
    simp only at *
    congr 1 <;> omega

theorem delta_lo {n : Int} : ∀ {e : List Spl} {last : Int}, good n last e → -1 ≤ last → last ≤ n → -(n - last) ≤ delta e
  | [], last, _, _, _ => by simp only [delta]; omega
  | s :: e, last, ⟨g1, g2, g3, g4, g5, g6⟩, h1, h2 => by
    have := delta_lo g6 (by omega) g3
    simp only [delta]; omega

theorem fits_end : ∀ {e : List Spl} {size : Int}, fits size e → size + delta e ≤ 4096
  | [], size, h => by simp only [fits] at h; simp only [delta]; omega
  | s :: e, size, ⟨h1, h2⟩ => by
    have := fits_end h2
    simp only [delta]; omega

theorem und_good {l : List Int} {N : Int} : ∀ (e : List Spl) (last moved : Int), good l.length last e → -1 ≤ last → N = l.length + moved + delta e → -1 ≤ last + moved → (l.length : Int) ≤ 4096 → last ≤ l.length → good N (last + moved) (undF l moved e)
  | [], last, moved, _, _, _, _, _, _ => trivial
  | s :: e, last, moved, ⟨g1, g2, g3, g4, g5, g6⟩, h0, hN, h1, h2, h4 => by
    have hlg := take_part l (a := s.f.toNat) (b := s.t.toNat) (by omega) (by omega)
    have ih := und_good (N := N) e s.t (moved + (s.x.length - (s.t - s.f))) g6 (by omega) (by simp only [delta] at hN; omega) (by omega) h2 g3
    have hd := delta_lo g6 (by omega) g3
    simp only [delta] at hN
    simp only [undF]
    refine ⟨by simp only; omega, by simp only; omega, ?_, ?_, ?_, ?_⟩
    · simp only; omega
    · simp only; rw [hlg]; omega
    · simp only; rw [hlg]; omega
    · simp only
      rw [show s.f + moved + (s.x.length : Int) = s.t + (moved + (s.x.length - (s.t - s.f))) by omega]
      exact ih

theorem und_fits {l : List Int} : ∀ (e : List Spl) (last moved size : Int), good l.length last e → -1 ≤ last → last ≤ l.length → fits size e → (l.length : Int) ≤ 4096 → 0 ≤ size → l.length - (last + 1) ≤ size → ∀ S : Int, S = l.length + delta e → size + delta e ≤ 4096 → S ≤ 8192 → fits S (undF l moved e)
  | [], last, moved, size, _, _, _, _, h2, _, _, S, hS, _, _ => by simp only [undF, fits]; simp only [delta] at hS; omega
  | s :: e, last, moved, size, ⟨g1, g2, g3, g4, g5, g6⟩, hl1, hl2, ⟨k1, k2⟩, h2, h3, h5, S, hS, hE, hS8 => by
    have hlg := take_part l (a := s.f.toNat) (b := s.t.toNat) (by omega) (by omega)
    simp only [delta] at hS hE
    have hd := delta_lo g6 (by omega) g3
    simp only [undF, fits]
    rw [hlg]
    have hfe := fits_end k2
    refine ⟨by omega, und_fits e s.t _ (size - (s.t - s.f) + s.x.length) g6 (by omega) g3 k2 h2 (by omega) (by omega) _ (by omega) (by omega) (by omega)⟩
end Go.Proofs.Ytmhgndjmcignjaa
