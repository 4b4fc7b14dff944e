/-
  In the line turned round the word turned round stands at as many places: plain Lean.
-/
import Derived.Test.YtgpagfbmbnlcpaaSeekA
namespace Go.Proofs.Ytgpagfbmbnlcpaa
set_option linter.unusedVariables false

theorem gI_rev {l : List Int} {j : Nat} (h : j < l.length) : gI l.reverse j = gI l (l.length - 1 - j) := by
  unfold gI
  rw [List.getElem?_reverse h]

theorem occ_rev {p s : List Int} {x : Nat} (hx : x + p.length ≤ s.length) : occ p.reverse s.reverse (s.length - p.length - x) ↔ occ p s x := by
  unfold occ
  rw [List.length_reverse]
  constructor
  · intro h j hj
    have := h (p.length - 1 - j) (by omega)
    rw [gI_rev (by omega), gI_rev (by omega)] at this
    rw [show p.length - 1 - (p.length - 1 - j) = j by omega, show s.length - 1 - (s.length - p.length - x + (p.length - 1 - j)) = x + j by omega] at this
    exact this
  · intro h j hj
    rw [gI_rev hj, gI_rev (by omega)]
    have := h (p.length - 1 - j) (by omega)
    rw [show s.length - 1 - (s.length - p.length - x + j) = x + (p.length - 1 - j) by omega]
    exact this

theorem range_rev (N : Nat) : (List.range N).reverse = (List.range N).map fun x => N - 1 - x := by
  apply List.ext_getElem
  · simp
  · intro i h1 h2
    simp at h1
    simp [List.getElem_reverse]

/-- The places in the turned line, turned, and those of the line. -/
theorem all_rev {p s : List Int} : (allP p.reverse s.reverse).reverse = (allP p s).map fun x => (s.length : Int) - p.length - x := by
  unfold allP posl
  rw [List.length_reverse, List.length_reverse, ← List.map_reverse, ← List.filter_reverse, range_rev]
  rw [List.filter_map, List.map_map, List.map_map]
  rw [List.filter_congr (q := fun x => decide (occ p s x))]
  · apply List.map_congr_left
    intro x hx
    have := List.mem_range.1 (List.mem_filter.1 hx).1
    simp only [Function.comp]
    omega
  · intro x hx
    have hx := List.mem_range.1 hx
    simp only [Function.comp, decide_eq_decide]
    rw [← occ_rev (p := p) (s := s) (x := x) (by omega)]
    rw [show s.length + 1 - p.length - 1 - x = s.length - p.length - x by omega]
end Go.Proofs.Ytgpagfbmbnlcpaa
