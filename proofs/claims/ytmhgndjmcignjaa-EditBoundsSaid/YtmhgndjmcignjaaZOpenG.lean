/-
  An argument that is registers, opened.
-/
import Derived.Test.YtmhgndjmcignjaaZJ9
import Derived.Test.YtmhgndjmcignjaaZRegM
import Derived.OpenShut

namespace Go.Proofs.Ytmhgndjmcignjaa
open Go.ChangeShapes Go.WideShapes Go.ChangeAt Go.RowKit Go.WideElems
set_option linter.unusedVariables false
set_option linter.unusedSimpArgs false

set_option maxRecDepth 20000 in
theorem regs_cells : Try.prog.cellsOf 30 = 27 := by kernel_rfl
theorem slice_cells : Try.prog.cellsOf 22 = 1 := by kernel_rfl
theorem int_bytes : Try.prog.bytesOf 3 = 8 := by kernel_rfl
theorem okWide_array {P : Program} {W : World} {r : Reach} {base : Nat} {t e : TypeId} {n : Nat} {v : Value} (ht : P.underlying t = some (.array n e)) (h : Value.okWide P W r base t v) : ∃ cs, v = .agg cs ∧ cs.size = P.cellsOf t := by
  simp only [Value.okWide, ht] at h
  obtain ⟨cs, h1, h2, _⟩ := h
  exact ⟨cs, h1, h2⟩
theorem weightsAll_mem {H : Type} {P : Program} {e : TypeId} {d : DataW H} {k : Nat} (hk : k ∈ d.weights P e) : ∀ {l : List (DataW H)}, d ∈ l → k ∈ DataW.weightsAll P e l
  | x :: l, h => by
    rw [DataW.weightsAll, List.mem_append]
    rcases List.mem_cons.1 h with rfl | h
    · exact .inl hk
    · exact .inr (weightsAll_mem hk h)
set_option maxRecDepth 20000 in
theorem open_regs {H : Type} {enc : TypeId × Value → H} {W : World} {base b0 : Nat} {r : Reach} {v : Value} {d : DataW H} {p : List MemPlace} {ts : List TypeId} {ds : List (DataW H)} {j : Nat}
    (hsz : (DataW.weightsEach Try.prog ts ds).all (· ≤ reachBytes) = true) (htj : ts[j]? = some 30) (hdj : ds[j]? = some d)
    (hv : Value.okWide Try.prog W r b0 30 v) (h : DataW.Trod enc Try.prog W base (fun _ => true) true 30 v d p) :
    ∃ cs rs, v = .agg cs ∧ Regs W cs rs ∧ ∀ i, i < 27 → (rs i).length * 8 ≤ 140737488351232 := by
  have hu : Try.prog.underlying 30 = some (.array 27 22) := Try.underlying30
  obtain ⟨cs, rfl, hcs⟩ := okWide_array hu hv
  rw [regs_cells] at hcs
  obtain ⟨fuel, hf⟩ := h
  obtain ⟨xs, m, _, hx, hl, hxs, hall⟩ := DataW.trod_array hu hf
  simp only [Prod.mk.injEq] at hx
  have each : ∀ i, i < 27 → ∃ l, (∃ u, cs[i]? = some u ∧ RegSl W u l) ∧ l.length * 8 ≤ 140737488351232 := by
    intro i hi
    have h1 := hall i hi
    rw [slice_cells, Nat.mul_one, List.getElem?_eq_getElem (by omega : i < xs.length)] at h1
    have hil : i < cs.size := by omega
    have h2 : ((Value.agg cs).cells.toList.drop i).take 1 = [cs[i]] := by
      show (cs.toList.drop i).take 1 = _
      rw [List.drop_eq_getElem_cons (by simpa using hil)]
      simp
    rw [h2] at h1
    rcases open_ints Try.underlying22 Try.underlying3 cells_int h1 with ⟨hc1, _⟩ | ⟨b, k, q, zs, hc1, _, hk, hq, hzl, hx1, hcell, _⟩
    · injection hc1 with hc1
      exact ⟨[], ⟨_, Array.getElem?_eq_getElem hil, none, 0, 0, hc1, Ints.none_ W, fun _ => rfl, by omega⟩, by simp⟩
    · injection hc1 with hc1
      simp only [if_true] at hzl
      have hmem : (xs[i]'(by omega)).1 ∈ xs.map (·.1) := List.mem_map_of_mem (List.getElem_mem _)
      rw [hx1] at hmem
      have hw : (k + (zs.length - k)) * 8 ∈ (DataW.slice (H := H) (lits .i64 (zs.take k)) (lits .i64 (zs.drop k))).weights Try.prog 22 := by
        rw [DataW.weights, Try.underlying22]
        refine List.mem_cons.2 (.inl ?_)
        rw [int_bytes]
        congr 1
        simp [lits]
        omega
      have hw2 : (k + (zs.length - k)) * 8 ∈ (DataW.agg (xs.map (·.1))).weights Try.prog 30 := by
        rw [DataW.weights, hu]
        exact weightsAll_mem hw hmem
      have hw3 := List.all_eq_true.1 hsz _ (DataW.weights_mem_each htj (by rw [hdj, hx.1]) _ hw2)
      rw [reach_num] at hw3
      have hw4 : (k + (zs.length - k)) * 8 ≤ 140737488351232 := by simpa using hw3
      refine ⟨zs.take k, ⟨_, Array.getElem?_eq_getElem hil, some b, k, q, hc1, ⟨by simp; omega, hk, hq, fun _ => ⟨b, rfl, fun j' u hu' => ?_⟩⟩, nofun, by omega⟩, by rw [List.length_take]; omega⟩
      have hj := (List.getElem?_eq_some_iff.1 hu').1
      simp at hj
      rw [hcell j' (by omega)]
      rw [← hu']
      simp [show j' < k by omega, show j' < zs.length by omega]
  refine ⟨cs, fun i => if h : i < 27 then (each i h).choose else [], rfl, ⟨hcs, fun i hi => ?_⟩, fun i hi => ?_⟩
  · simp only [dif_pos hi]
    exact (each i hi).choose_spec.1
  · simp only [dif_pos hi]
    exact (each i hi).choose_spec.2
end Go.Proofs.Ytmhgndjmcignjaa
