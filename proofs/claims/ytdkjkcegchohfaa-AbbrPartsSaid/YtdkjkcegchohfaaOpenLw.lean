/-
  An argument that is a slice of slices of numbers, opened: each number is one that an int holds.
-/
import Derived.Test.YtdkjkcegchohfaaOpenL
namespace Go.Proofs.Ytdkjkcegchohfaa
open Go.ChangeShapes Go.WideShapes Go.ChangeAt Go.RowKit Go.WideElems Go.Deep
set_option maxRecDepth 20000
set_option linter.unusedVariables false
set_option linter.unusedSimpArgs false

/-- A slice of slices, opened. -/
theorem open_lnsW {H : Type} {enc : TypeId × Value → H} {W : World} {base fuel : Nat} {v : Value} {x : DataW H × List MemPlace}
    (h : DataW.trod enc Try.prog W base (fun _ => true) true fuel 22 [v] = some x) (hw : ∀ k ∈ x.1.weights Try.prog 22, k ≤ 140737488351232) :
    ∃ A n c ls, v = .slice A n c ∧ Lns W A n c ls ∧ (A = none → c = 0) ∧ n * 24 ≤ 140737488351232 ∧ (∀ i, i < n → (gL ls i).length * 8 ≤ 140737488351232) ∧ ∀ i, i < ls.length → ∀ y ∈ gL ls i, (Lit.int .i64 y).wf = true := by
  rcases open_slice1 Try.underlying22 sl_cells h with ⟨hcs, _⟩ | ⟨a, len, cap, m, n, V, D, Pl, hcs, _, hk, hq, hm, hx, hall⟩
  · simp only [List.cons.injEq, and_true] at hcs
    subst hcs
    exact ⟨none, 0, 0, [], rfl, ⟨[], Rd.none_ W 1, ⟨rfl, fun i hi => absurd hi (by simp)⟩⟩, fun _ => rfl, by omega, fun i hi => absurd hi (by omega), fun i hi => absurd hi (by simp)⟩
  · simp only [List.cons.injEq, and_true] at hcs
    subst hcs
    subst hx
    simp only [if_true] at hm
    subst hm
    have each : ∀ i, i < len → ∃ l, RegSl W (V i) l ∧ l.length * 8 ≤ 140737488351232 ∧ ∀ y ∈ l, (Lit.int .i64 y).wf = true := fun i hi => by
      obtain ⟨h1, h2⟩ := hall i (by omega)
      obtain ⟨l, h3, h4, h5⟩ := open_sl h2 (fun k hk' => hw k (by
        simp only [DataW.weights, Try.underlying22]
        refine List.mem_cons.2 (.inr (List.mem_append.2 (.inl ?_)))
        exact weightsAll_in hk' (List.mem_map.2 ⟨i, List.mem_range.2 hi, rfl⟩)))
      exact ⟨l, h3, h4, h5⟩
    have h1 : len * 24 ≤ 140737488351232 := by
      have : (len + (m - len)) * 24 ≤ 140737488351232 := hw _ (by
        simp only [DataW.weights, Try.underlying22]
        refine List.mem_cons.2 (.inl ?_)
        rw [sl_bytes]
        simp)
      omega
    let f : Nat → List Int := fun i => if h : i < len then (each i h).choose else []
    have hf : ∀ i, i < len → RegSl W (V i) (f i) ∧ (f i).length * 8 ≤ 140737488351232 ∧ ∀ y ∈ f i, (Lit.int .i64 y).wf = true := fun i hi => by
      simp only [f, dif_pos hi]
      exact (each i hi).choose_spec
    have hg : ∀ i, i < len → gL ((List.range len).map f) i = f i := fun i hi => by
      unfold gL
      simp [hi]
    refine ⟨some a, len, m, (List.range len).map f, rfl, ⟨(List.range len).map V, ⟨by simp, hk, hq, fun _ => ⟨a, rfl, fun j u hu => ?_⟩⟩, ⟨by simp, fun i hi => ?_⟩⟩, nofun, h1, fun i hi => by rw [hg i hi]; exact (hf i hi).2.1, fun i hi => by simp at hi; rw [hg i hi]; exact (hf i hi).2.2⟩
    · have hj := (List.getElem?_eq_some_iff.1 hu).1
      simp at hj
      rw [(hall j (by omega)).1]
      rw [← hu]
      simp [hj]
    · simp at hi
      exact ⟨V i, by simp [hi], by rw [hg i hi]; exact (hf i hi).1⟩
/-- An argument that is a slice of slices. -/
theorem open_listsW {H : Type} {enc : TypeId × Value → H} {W : World} {base : Nat} {v : Value} {d : DataW H} {p : List MemPlace} {ts : List TypeId} {ds : List (DataW H)} {j : Nat}
    (hsz : (DataW.weightsEach Try.prog ts ds).all (· ≤ reachBytes) = true) (htj : ts[j]? = some 22) (hdj : ds[j]? = some d)
    {b0 : Nat} {r : Reach} (hv : Value.okWide Try.prog W r b0 22 v) (h : DataW.Trod enc Try.prog W base (fun _ => true) true 22 v d p) :
    ∃ A n c ls, v = .slice A n c ∧ Lns W A n c ls ∧ (A = none → c = 0) ∧ n * 24 ≤ 140737488351232 ∧ (∀ i, i < n → (gL ls i).length * 8 ≤ 140737488351232) ∧ ∀ i, i < ls.length → ∀ y ∈ gL ls i, (Lit.int .i64 y).wf = true := by
  obtain ⟨A0, n0, c0, rfl⟩ := okWide_slice Try.underlying22 hv
  obtain ⟨fuel, hf⟩ := h
  exact open_lnsW (x := (d, p)) hf (fun k hk => by
    have := List.all_eq_true.1 hsz _ (DataW.weights_mem_each htj hdj k hk)
    rw [reach_num] at this
    simpa using this)
end Go.Proofs.Ytdkjkcegchohfaa
