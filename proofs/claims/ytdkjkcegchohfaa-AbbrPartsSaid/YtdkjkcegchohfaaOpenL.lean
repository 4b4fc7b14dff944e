/-
  An argument that is a slice of slices of numbers, opened; a history, opened.
-/
import Derived.Test.YtdkjkcegchohfaaSized
import Derived.Test.YtdkjkcegchohfaaHisM
import Derived.Deep.Matrix
namespace Go.Proofs.Ytdkjkcegchohfaa
open Go.ChangeShapes Go.WideShapes Go.ChangeAt Go.RowKit Go.WideElems Go.Deep
set_option maxRecDepth 20000
set_option linter.unusedVariables false
set_option linter.unusedSimpArgs false

theorem sl_cells : Try.prog.cellsOf 23 = 1 := by kernel_rfl
theorem sl_bytes : Try.prog.bytesOf 23 = 24 := by kernel_rfl
theorem in_bytes : Try.prog.bytesOf 3 = 8 := by kernel_rfl
theorem weightsAll_in {H : Type} {P : Program} {e : TypeId} {d : DataW H} {k : Nat} (hk : k ∈ d.weights P e) : ∀ {l : List (DataW H)}, d ∈ l → k ∈ DataW.weightsAll P e l
  | x :: l, h => by
    rw [DataW.weightsAll, List.mem_append]
    rcases List.mem_cons.1 h with rfl | h
    · exact .inl hk
    · exact .inr (weightsAll_in hk h)

/-- A slice of numbers, opened. -/
theorem open_sl {H : Type} {enc : TypeId × Value → H} {W : World} {base fuel : Nat} {v : Value} {x : DataW H × List MemPlace}
    (h : DataW.trod enc Try.prog W base (fun _ => true) true fuel 23 [v] = some x) (hw : ∀ k ∈ x.1.weights Try.prog 23, k ≤ 140737488351232) :
    ∃ l, RegSl W v l ∧ l.length * 8 ≤ 140737488351232 ∧ (∀ y ∈ l, (Lit.int .i64 y).wf = true) := by
  rcases open_ints Try.underlying23 Try.underlying3 cells_int h with ⟨hcs, _⟩ | ⟨b, k, q, zs, hcs, _, hk, hq, hzl, hx, hcell, hwf⟩
  · simp only [List.cons.injEq, and_true] at hcs
    subst hcs
    exact ⟨[], ⟨none, 0, 0, rfl, Ints.none_ W, fun _ => rfl, by omega⟩, by simp, by simp⟩
  · simp only [List.cons.injEq, and_true] at hcs
    subst hcs
    subst hx
    simp only [if_true] at hzl
    have h1 : (k + (zs.length - k)) * 8 ≤ 140737488351232 := hw _ (by
      simp only [DataW.weights, Try.underlying23]
      refine List.mem_cons.2 (.inl ?_)
      rw [in_bytes]
      simp [lits]
      rw [Nat.min_eq_left (by omega)])
    refine ⟨zs.take k, ⟨some b, k, q, rfl, ⟨by simp; omega, hk, hq, fun _ => ⟨b, rfl, fun j u hu => ?_⟩⟩, nofun, by omega⟩, by rw [List.length_take]; omega, fun y hy => hwf y (List.mem_of_mem_take hy)⟩
    have hj := (List.getElem?_eq_some_iff.1 hu).1
    simp at hj
    rw [hcell j (by omega)]
    rw [← hu]
    simp [show j < k by omega, show j < zs.length by omega]

/-- A slice of slices, opened. -/
theorem open_lns {H : Type} {enc : TypeId × Value → H} {W : World} {base fuel : Nat} {v : Value} {x : DataW H × List MemPlace}
    (h : DataW.trod enc Try.prog W base (fun _ => true) true fuel 22 [v] = some x) (hw : ∀ k ∈ x.1.weights Try.prog 22, k ≤ 140737488351232) :
    ∃ A n c ls, v = .slice A n c ∧ Lns W A n c ls ∧ (A = none → c = 0) ∧ n * 24 ≤ 140737488351232 ∧ ∀ i, i < n → (gL ls i).length * 8 ≤ 140737488351232 := by
  rcases open_slice1 Try.underlying22 sl_cells h with ⟨hcs, _⟩ | ⟨a, len, cap, m, n, V, D, Pl, hcs, _, hk, hq, hm, hx, hall⟩
  · simp only [List.cons.injEq, and_true] at hcs
    subst hcs
    exact ⟨none, 0, 0, [], rfl, ⟨[], Rd.none_ W 1, ⟨rfl, fun i hi => absurd hi (by simp)⟩⟩, fun _ => rfl, by omega, fun i hi => absurd hi (by omega)⟩
  · simp only [List.cons.injEq, and_true] at hcs
    subst hcs
    subst hx
    simp only [if_true] at hm
    subst hm
    have each : ∀ i, i < len → ∃ l, RegSl W (V i) l ∧ l.length * 8 ≤ 140737488351232 := fun i hi => by
      obtain ⟨h1, h2⟩ := hall i (by omega)
      obtain ⟨l, h3, h4, _⟩ := open_sl h2 (fun k hk' => hw k (by
        simp only [DataW.weights, Try.underlying22]
        refine List.mem_cons.2 (.inr (List.mem_append.2 (.inl ?_)))
        exact weightsAll_in hk' (List.mem_map.2 ⟨i, List.mem_range.2 hi, rfl⟩)))
      exact ⟨l, h3, h4⟩
    have h1 : len * 24 ≤ 140737488351232 := by
      have : (len + (m - len)) * 24 ≤ 140737488351232 := hw _ (by
        simp only [DataW.weights, Try.underlying22]
        refine List.mem_cons.2 (.inl ?_)
        rw [sl_bytes]
        simp)
      omega
    let f : Nat → List Int := fun i => if h : i < len then (each i h).choose else []
    have hf : ∀ i, i < len → RegSl W (V i) (f i) ∧ (f i).length * 8 ≤ 140737488351232 := fun i hi => by
      simp only [f, dif_pos hi]
      exact (each i hi).choose_spec
    have hg : ∀ i, i < len → gL ((List.range len).map f) i = f i := fun i hi => by
      unfold gL
      simp [hi]
    refine ⟨some a, len, m, (List.range len).map f, rfl, ⟨(List.range len).map V, ⟨by simp, hk, hq, fun _ => ⟨a, rfl, fun j u hu => ?_⟩⟩, ⟨by simp, fun i hi => ?_⟩⟩, nofun, h1, fun i hi => by rw [hg i hi]; exact (hf i hi).2⟩
    · have hj := (List.getElem?_eq_some_iff.1 hu).1
      simp at hj
      rw [(hall j (by omega)).1]
      rw [← hu]
      simp [hj]
    · simp at hi
      exact ⟨V i, by simp [hi], by rw [hg i hi]; exact (hf i hi).1⟩
/-- An argument that is a slice of slices. -/
theorem open_lists {H : Type} {enc : TypeId × Value → H} {W : World} {base : Nat} {v : Value} {d : DataW H} {p : List MemPlace} {ts : List TypeId} {ds : List (DataW H)} {j : Nat}
    (hsz : (DataW.weightsEach Try.prog ts ds).all (· ≤ reachBytes) = true) (htj : ts[j]? = some 22) (hdj : ds[j]? = some d)
    {b0 : Nat} {r : Reach} (hv : Value.okWide Try.prog W r b0 22 v) (h : DataW.Trod enc Try.prog W base (fun _ => true) true 22 v d p) :
    ∃ A n c ls, v = .slice A n c ∧ Lns W A n c ls ∧ (A = none → c = 0) ∧ n * 24 ≤ 140737488351232 ∧ ∀ i, i < n → (gL ls i).length * 8 ≤ 140737488351232 := by
  obtain ⟨A0, n0, c0, rfl⟩ := okWide_slice Try.underlying22 hv
  obtain ⟨fuel, hf⟩ := h
  exact open_lns (x := (d, p)) hf (fun k hk => by
    have := List.all_eq_true.1 hsz _ (DataW.weights_mem_each htj hdj k hk)
    rw [reach_num] at this
    simpa using this)
end Go.Proofs.Ytdkjkcegchohfaa
