/-
  Places that move with a line, in plain words; the walk of mark.Move.
-/
import Derived.Test.YtbdiiopllmhfeaaSplB
namespace Go.Proofs.Ytbdiiopllmhfeaa
open Go.RowKit
set_option linter.unusedVariables false
set_option linter.unusedSimpArgs false

/-- The loop of Move. -/
def movL (k : Int) (st : Bool) : Int → List Spl → Int
  | out, [] => out
  | out, s :: e => if k < s.f ∨ (s.f = k ∧ st = true) then out else if s.t ≤ k then movL k st (out + (s.x.length - (s.t - s.f))) e else out - (k - s.f) + (if st then 0 else s.x.length)
def movF (e : List Spl) (k : Int) (st : Bool) : Int := movL k st k e

theorem mov_add (k : Int) (st : Bool) (x : Int) : ∀ (e : List Spl) (y : Int), movL k st (x + y) e = x + movL k st y e
  | [], y => rfl
  | s :: e, y => by
    simp only [movL]
    split
    · rfl
    · split
      · rw [show x + y + (s.x.length - (s.t - s.f)) = x + (y + (s.x.length - (s.t - s.f))) by omega, mov_add]
      · omega
theorem mov_shift (k : Int) (st : Bool) (e : List Spl) {x y z : Int} (h : z = x + y) : movL k st z e = x + movL k st y e := by rw [h, mov_add]

theorem behind_of {n : Int} {t : Int} {a : Nat} {e : List Spl} (h : good n t e) (ha : (a : Int) ≤ t + 1) : behind a e := fun u hu => by
  cases e with
  | nil => cases hu
  | cons v e => cases hu; have := h.1; omega

/-- The place in what is made from a on. -/
theorem mov_pos (l : List Int) (n : Nat) (hn : l.length = n) : ∀ (e : List Spl) (a : Nat) (last : Int), good n last e → behind a e → a ≤ n → ∀ k : Nat, a ≤ k → k ≤ n →
    0 ≤ movL k true (k - a) e ∧ movL k true (k - a) e ≤ movL k false (k - a) e ∧ movL k false (k - a) e ≤ n - a + delta e ∧
      (∀ k' : Nat, k ≤ k' → k' ≤ n → movL k false (k - a) e ≤ movL k' false (k' - a) e) ∧
      (k < n → (∀ s ∈ e, ¬ (s.f ≤ k ∧ (k : Int) < s.t)) → movL k false (k - a) e < n - a + delta e ∧ gI (appF l a e) (movL k false (k - a) e).toNat = gI l k)
  | [], a, last, _, _, ha, k, hk, hkn => by
    simp only [movL, delta, appF]
    refine ⟨by omega, by omega, by omega, fun k' h1 h2 => by omega, fun h1 _ => ⟨by omega, ?_⟩⟩
    unfold gI
    rw [List.getElem?_drop]
    congr 2
    omega
  | s :: e, a, last, ⟨g1, g2, g3, g4, g5, g6⟩, hb, ha, k, hk, hkn => by
    have haf : (a : Int) ≤ s.f := hb _ rfl
    obtain ⟨f, x, hf⟩ : ∃ (f : Nat) (x : List Int), s.f = f ∧ s.x = x := ⟨s.f.toNat, s.x, by omega, rfl⟩
    obtain ⟨hf, hx⟩ := hf
    obtain ⟨t, ht⟩ : ∃ t : Nat, s.t = t := ⟨s.t.toNat, by omega⟩
    rw [hf] at g1 g2 haf g4
    rw [ht] at g2 g3 g4 g6
    rw [hx] at g4 g5
    have hbt : behind t e := behind_of g6 (by omega)
    have hd := delta_lo g6 (by omega) (by omega)
    have IH := mov_pos l n hn e t t g6 hbt (by omega)
    have happ : appF l a (s :: e) = (l.drop a).take (f - a) ++ x ++ appF l t e := by
      simp only [appF, hf, ht, hx, Int.toNat_natCast]
    have hlp := take_part l (a := a) (b := f) (by omega) (by omega)
    have keyT : ∀ k : Nat, a ≤ k → movL k true ((k : Int) - a) (s :: e) = if (k : Int) ≤ f then (k : Int) - a else if (t : Int) ≤ k then (f - a) + x.length + movL k true (k - t) e else (f - a) := by
      intro k hk
      simp only [movL, hf, ht, hx]
      by_cases h : (k : Int) ≤ f
      · rw [if_pos (by simp; omega), if_pos h]
      · rw [if_neg (by simp; omega), if_neg h]
        split
        · exact mov_shift _ _ _ (by omega)
        · simp; omega
    have keyF : ∀ k : Nat, a ≤ k → movL k false ((k : Int) - a) (s :: e) = if (k : Int) < f then (k : Int) - a else if (t : Int) ≤ k then (f - a) + x.length + movL k false (k - t) e else (f - a) + x.length := by
      intro k hk
      simp only [movL, hf, ht, hx]
      by_cases h : (k : Int) < f
      · rw [if_pos (.inl h), if_pos h]
      · rw [if_neg (by simp; omega), if_neg h]
        split
        · exact mov_shift _ _ _ (by omega)
        · simp; omega
    have low : ∀ (k : Nat), t ≤ k → k ≤ n → 0 ≤ movL k true (k - t) e ∧ 0 ≤ movL k false (k - t) e ∧ movL k true (k - t) e ≤ movL k false (k - t) e := fun k h1 h2 => by
      obtain ⟨i1, i2, _⟩ := IH k h1 h2
      exact ⟨i1, by omega, i2⟩
    rw [keyT k hk, keyF k hk]
    simp only [delta, hf, ht, hx]
    refine ⟨?_, ?_, ?_, ?_, ?_⟩
    · split
      · omega
      · split
        · have := low k (by omega) hkn; omega
        · omega
    · by_cases h3 : (t : Int) ≤ k
      · have := low k (by omega) hkn
        split <;> split <;> (first | omega | (split <;> omega) | (split <;> split <;> omega))
      · split <;> split <;> (first | omega | (split <;> omega) | (split <;> split <;> omega))
    · by_cases h3 : (t : Int) ≤ k
      · have := (IH k (by omega) hkn).2.2.1
        split <;> (first | omega | (split <;> omega))
      · split <;> (first | omega | (split <;> omega))
    · intro k' h1' h2'
      rw [keyF k' (by omega)]
      by_cases h1 : (k : Int) < f
      · rw [if_pos h1]
        by_cases h5 : (t : Int) ≤ k'
        · have := low k' (by omega) h2'
          split <;> (first | omega | (split <;> omega))
        · split <;> (first | omega | (split <;> omega))
      · have h1b : ¬ (k' : Int) < f := by omega
        rw [if_neg h1, if_neg h1b]
        by_cases h3 : (t : Int) ≤ k
        · rw [if_pos h3, if_pos (by omega)]
          have := (IH k (by omega) hkn).2.2.2.1 k' h1' h2'
          omega
        · rw [if_neg h3]
          by_cases h5 : (t : Int) ≤ k'
          · rw [if_pos h5]; have := low k' (by omega) h2'; omega
          · rw [if_neg h5]; omega
    · intro hkn' hno
      have hns := hno s (by simp)
      rw [hf, ht] at hns
      rw [happ]
      by_cases h1 : (k : Int) < f
      · rw [if_pos h1]
        refine ⟨by omega, ?_⟩
        have e1 : ((k : Int) - a).toNat = k - a := by omega
        unfold gI
        rw [e1, List.append_assoc, List.getElem?_append_left (by omega), List.getElem?_take, if_pos (by omega), List.getElem?_drop]
        congr 2
        omega
      · rw [if_neg h1]
        have h3 : (t : Int) ≤ k := by omega
        rw [if_pos h3]
        obtain ⟨i1, i2⟩ := (IH k (by omega) hkn).2.2.2.2 hkn' (fun u hu => hno u (by simp [hu]))
        have hp := low k (by omega) hkn
        refine ⟨by omega, ?_⟩
        rw [← i2]
        unfold gI
        have e1 : ((f : Int) - a + x.length + movL k false (k - t) e).toNat = ((l.drop a).take (f - a) ++ x).length + (movL k false (k - t) e).toNat := by
          rw [List.length_append, hlp]; omega
        rw [e1, List.getElem?_append_right (by omega), Nat.add_sub_cancel_left]

/-- There and back. -/
theorem mov_back (l : List Int) (n : Nat) (hn : l.length = n) : ∀ (e : List Spl) (a : Nat) (last moved : Int), good n last e → behind a e → a ≤ n → ∀ k : Nat, a ≤ k → k < n → (∀ s ∈ e, ¬ (s.f ≤ k ∧ (k : Int) < s.t)) →
    movL (movL k false (k + moved) e) false (movL k false (k + moved) e - moved) (undF l moved e) = k
  | [], a, last, moved, _, _, ha, k, hk, hkn, _ => by simp only [movL, undF]; omega
  | s :: e, a, last, moved, ⟨g1, g2, g3, g4, g5, g6⟩, hb, ha, k, hk, hkn, hno => by
    have haf : (a : Int) ≤ s.f := hb _ rfl
    have hns := hno s (by simp)
    have hlg := take_part l (a := s.f.toNat) (b := s.t.toNat) (by omega) (by omega)
    by_cases h1 : (k : Int) < s.f
    · have e1 : movL k false (k + moved) (s :: e) = k + moved := by
        simp only [movL]
        rw [if_pos (.inl h1)]
      rw [e1]
      simp only [undF, movL]
      rw [if_pos (.inl (by omega))]
      omega
    · have h3 : s.t ≤ k := by omega
      obtain ⟨t, ht⟩ : ∃ t : Nat, s.t = t := ⟨s.t.toNat, by omega⟩
      have hbt : behind t e := behind_of g6 (by omega)
      have hp := mov_pos l n hn e t s.t g6 hbt (by omega) k (by omega) (by omega)
      have e1 : movL k false (k + moved) (s :: e) = movL k false (k + (moved + (s.x.length - (s.t - s.f)))) e := by
        simp only [movL]
        rw [if_neg (by simp; omega), if_pos h3]
        congr 1
        omega
      have ih := mov_back l n hn e t s.t (moved + (s.x.length - (s.t - s.f))) g6 hbt (by omega) k (by omega) hkn (fun u hu => hno u (by simp [hu]))
      rw [e1]
      have e2 := mov_shift k false e (x := t + (moved + (s.x.length - (s.t - s.f)))) (y := k - t) (z := k + (moved + (s.x.length - (s.t - s.f)))) (by omega)
      have hA : s.f + moved + s.x.length ≤ movL k false (k + (moved + (s.x.length - (s.t - s.f)))) e := by
        rw [e2]; omega
      revert hA ih
      generalize movL k false (k + (moved + (s.x.length - (s.t - s.f)))) e = Z
      intro ih hA
      simp only [undF, movL]
      rw [if_neg (by simp; omega), if_pos (by omega), hlg]
      rw [← ih]
      congr 1
      omega
end Go.Proofs.Ytbdiiopllmhfeaa
