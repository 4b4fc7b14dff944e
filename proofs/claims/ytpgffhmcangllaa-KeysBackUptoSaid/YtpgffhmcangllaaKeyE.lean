/-
  slices.Equal of two lists of commands that are one.
-/
import Derived.Test.YtpgffhmcangllaaKeyA
namespace Go.Proofs.Ytpgffhmcangllaa
open Go.RowKit
set_option linter.unusedVariables false
set_option linter.unusedSimpArgs false

theorem rowC_len (l : List Cm) : (rowC l).length = 5 * l.length := by
  induction l with
  | nil => rfl
  | cons x l ih => have : rowC (x :: l) = cmC x ++ rowC l := rfl
                   rw [this, List.length_append, ih]; simp [cmC]; omega
theorem rowC_at : ∀ (l : List Cm) (k : Nat) (h : k < l.length) (i : Nat), i < 5 → (rowC l)[k * 5 + i]? = (cmC l[k])[i]?
  | [], k, h, _, _ => by simp at h
  | x :: l, 0, h, i, hi => by
    have : rowC (x :: l) = cmC x ++ rowC l := rfl
    rw [this, List.getElem?_append_left (by simp [cmC]; omega)]
    simp
  | x :: l, k + 1, h, i, hi => by
    have : rowC (x :: l) = cmC x ++ rowC l := rfl
    have e : (cmC x).length = 5 := rfl
    rw [this, List.getElem?_append_right (by rw [e]; omega), e, show (k + 1) * 5 + i - 5 = k * 5 + i by omega, rowC_at l k (by simpa using h) i hi]
    simp
/-- A row of commands. -/
def Cms (w : World) (A : Option Addr) (n c : Nat) (l : List Cm) : Prop := Rd w 5 A n c (rowC l)
theorem Cms.len {w : World} {A : Option Addr} {n c : Nat} {l : List Cm} (h : Cms w A n c l) : l.length = n := by
  have h1 := Rd.len h
  rw [rowC_len] at h1
  omega
theorem Cms.at_ {w : World} {A : Option Addr} {n c : Nat} {l : List Cm} (h : Cms w A n c l) {k : Nat} (hk : k < n) : ∃ ad x, A = some ad ∧ l[k]? = some x ∧
    w.cell? (ad.add (k * 5)) = some (.int .i64 x.count) ∧ w.cell? ⟨(ad.add (k * 5)).block, (ad.add (k * 5)).off + 1, none⟩ = some (.int .i64 x.reg) ∧ w.cell? ⟨(ad.add (k * 5)).block, (ad.add (k * 5)).off + 2, none⟩ = some (.int .i64 x.op) ∧ w.cell? ⟨(ad.add (k * 5)).block, (ad.add (k * 5)).off + 3, none⟩ = some (.int .i64 x.verb) ∧ w.cell? ⟨(ad.add (k * 5)).block, (ad.add (k * 5)).off + 4, none⟩ = some (.int .i64 x.arg) := by
  obtain ⟨ad, e, hc⟩ := Rd.at_ h hk
  have hl := Cms.len h
  have hkl : k < l.length := by omega
  have f := fun i hi => rowC_at l k hkl i hi
  refine ⟨ad, l[k], e, List.getElem?_eq_getElem hkl, hc _ _ (by have := f 0 (by omega); simpa [cmC] using this), ?_, ?_, ?_, ?_⟩
  · have := hc _ _ (show (rowC l)[k * 5 + 1]? = some _ by rw [f 1 (by omega)]; rfl)
    rw [← add_of_add] at this
    exact this
  · have := hc _ _ (show (rowC l)[k * 5 + 2]? = some _ by rw [f 2 (by omega)]; rfl)
    rw [← add_of_add] at this
    exact this
  · have := hc _ _ (show (rowC l)[k * 5 + 3]? = some _ by rw [f 3 (by omega)]; rfl)
    rw [← add_of_add] at this
    exact this
  · have := hc _ _ (show (rowC l)[k * 5 + 4]? = some _ by rw [f 4 (by omega)]; rfl)
    rw [← add_of_add] at this
    exact this

set_option maxRecDepth 20000 in
set_option maxHeartbeats 4000000 in
theorem equalC_same {A B : Option Addr} {n c m d : Nat} {l : List Cm} {w : World} (hl : Cms w A n c l) (hl' : Cms w B m d l) :
    Calls Try.prog 9 #[.slice A n c, .slice B m d] w fun e w' => e = .returned (.bool true) ∧ Ext w w' := by
  have h1 := Rd.ncap hl
  have h2 := Rd.nmax hl
  have h3 := Rd.ncap hl'
  have h4 := Rd.nmax hl'
  have e1 := hl.len
  have e2 := hl'.len
  unfold maxLen at h2 h4
  obtain rfl : n = m := by omega
  have hne : ((n : Int) != (n : Int)) = false := by simp
  clear e1 e2
  go_enter Try.func9, Try.ntmps9
  go_wp2_with fail
  go_loopw [13] (fun i wr => ∃ k : Nat, k ≤ n ∧ i = .int .i64 k ∧ ∃ q, wr = w.drewN q) (fun i _ => n - (intOf i).toNat)
  case atStart => exact ⟨0, by omega, rfl, 0, rfl⟩
  case round =>
    obtain ⟨k, hk, rfl, q, rfl⟩ := hrel
    by_cases hlt : k < n
    · obtain ⟨a1, x, rfl, hx, c0, c1, c2, c3, c4⟩ := hl.at_ hlt
      obtain ⟨a2, y, rfl, hy, b0, b1, b2, b3, b4⟩ := hl'.at_ hlt
      obtain rfl : x = y := by rw [hx] at hy; injection hy
      clear hx hy hl hl'
      obtain ⟨x0, x1, x2, x3, x4⟩ := x
      simp only at c0 c1 c2 c3 c4 b0 b1 b2 b3 b4
      go_wp2_with fail
      go_quiet (fail)
      go_wp2_with fail
      go_roundw
      case rel => exact ⟨k + 1, by omega, by go_num, q + nq, rfl⟩
      case measure => simp [intOf]; omega
    · obtain rfl : k = n := by omega
      go_wp2_with fail
      go_ret
      exact ⟨rfl, Ext.drewN _ _⟩
end Go.Proofs.Ytpgffhmcangllaa
