/-
  An argument that is an edit, opened, with what the reach gives of it.
-/
import Derived.Test.YthphlghblmindaaOpenE
import Derived.Test.YthphlghblmindaaOpenN
namespace Go.Proofs.Ythphlghblmindaa
open Go.ChangeShapes Go.WideShapes Go.ChangeAt Go.RowKit Go.WideElems Go.Deep
set_option linter.unusedVariables false

set_option maxRecDepth 20000 in
theorem spl_bytes : Try.prog.bytesOf 45 = 40 := by kernel_rfl
theorem weightsAll_inE {H : Type} {P : Program} {e : TypeId} {d : DataW H} {k : Nat} (hk : k ∈ d.weights P e) : ∀ {l : List (DataW H)}, d ∈ l → k ∈ DataW.weightsAll P e l
  | x :: l, h => by
    rw [DataW.weightsAll, List.mem_append]
    rcases List.mem_cons.1 h with rfl | h
    · exact .inl hk
    · exact .inr (weightsAll_inE hk h)
set_option maxRecDepth 20000 in
theorem open_editz {H : Type} {enc : TypeId × Value → H} {W : World} {base b0 : Nat} {r : Reach} {v : Value} {d : DataW H} {p : List MemPlace} {ts : List TypeId} {ds : List (DataW H)} {jj : Nat}
    (hsz0 : (DataW.weightsEach Try.prog ts ds).all (· ≤ reachBytes) = true) (htj : ts[jj]? = some 39) (hdj : ds[jj]? = some d)
    (hv : Value.okWide Try.prog W r b0 39 v) (h : DataW.Trod enc Try.prog W base (fun _ => true) true 39 v d p) :
    ∃ A n c e, v = .slice A n c ∧ EditAt W A n c e ∧ (A = none → c = 0) ∧ n * 40 ≤ 140737488351232 ∧ ∀ i, i < n → (gE e i).x.length * 8 ≤ 140737488351232 := by
  have hlim : ∀ k ∈ d.weights Try.prog 39, k ≤ 140737488351232 := fun k hk => by
    have := List.all_eq_true.1 hsz0 _ (DataW.weights_mem_each htj hdj k hk)
    rw [reach_num] at this
    simpa using this
  obtain ⟨a0, len, cap, rfl⟩ := okWide_slice Try.underlying39 hv
  have hB := splice_type
  unfold spliceB at hB
  split at hB
  · rename_i fs hfs
    simp only [Bool.and_eq_true, beq_iff_eq] at hB
    obtain ⟨⟨⟨⟨⟨hone, hsz⟩, hce⟩, h0⟩, h1⟩, h2⟩ := hB
    obtain ⟨fuel, hf⟩ := h
    rcases open_slice_fields Try.underlying39 hfs hone (by rw [hce, hsz]) hf with ⟨hcs, hx⟩ | ⟨a, len', cap', m, D, Pl, hcs, _, hl, hm, hmm, hx, hi⟩
    · simp [Value.cells] at hcs
      obtain ⟨rfl, rfl, rfl⟩ := hcs
      exact ⟨none, 0, 0, [], rfl, EditAt.none_ W, fun _ => rfl, by omega, fun i hi => absurd hi (by omega)⟩
    · simp [Value.cells] at hcs
      obtain ⟨rfl, rfl, rfl⟩ := hcs
      simp only [if_true] at hmm
      simp only [Prod.mk.injEq] at hx
      have hz1 : len * 40 ≤ 140737488351232 := by
        have h := hlim ((len + (m - len)) * 40) (by
          rw [hx.1]
          simp only [DataW.weights, Try.underlying39]
          refine List.mem_cons.2 (.inl ?_)
          rw [spl_bytes]
          simp)
        omega
      have each : ∀ i, i < len → ∃ s : Spl, s.x.length * 8 ≤ 140737488351232 ∧ W.cell? (a.add (i * 3)) = some (.int .i64 s.f) ∧ W.cell? (a.add (i * 3 + 1)) = some (.int .i64 s.t) ∧ ∃ B k q, W.cell? (a.add (i * 3 + 2)) = some (.slice B k q) ∧ Ints W B k q s.x ∧ (B = none → q = 0) := by
        intro i hil
        obtain ⟨ys, n', hDi, _, hyl, hg⟩ := hi i (by omega)
        obtain ⟨f0, hf0, ht0⟩ := Option.map_eq_some_iff.1 h0
        obtain ⟨f1, hf1, ht1⟩ := Option.map_eq_some_iff.1 h1
        obtain ⟨f2, hf2, ht2⟩ := Option.map_eq_some_iff.1 h2
        obtain ⟨v0, y0, c0, _, t0⟩ := hg 0 f0 hf0
        obtain ⟨v1, y1, c1, _, t1⟩ := hg 1 f1 hf1
        obtain ⟨v2, y2, c2, hy2, t2⟩ := hg 2 f2 hf2
        rw [hsz] at c0 c1 c2
        rw [ht0] at t0
        rw [ht1] at t1
        rw [ht2] at t2
        obtain ⟨z0, hz0, _, _⟩ := DataW.trod_int Try.underlying3 t0
        obtain ⟨z1, hz1, _, _⟩ := DataW.trod_int Try.underlying3 t1
        injection hz0 with hz0
        injection hz1 with hz1
        subst hz0; subst hz1
        have htt : (fs.toList.map (·.type))[2]? = some 22 := by
          rw [List.getElem?_map]
          have : fs.toList[2]? = some f2 := by simpa using hf2
          rw [this, Option.map_some, ht2]
        obtain ⟨lx, ⟨Bx, kx, qx, rfl, hIx, hNx, _⟩, hbx, _⟩ := open_slN t2 (fun k hk => hlim k (by
          rw [hx.1]
          simp only [DataW.weights, Try.underlying39]
          refine List.mem_cons.2 (.inr (List.mem_append.2 (.inl ?_)))
          refine weightsAll_inE (d := D i) ?_ (List.mem_map.2 ⟨i, List.mem_range.2 hil, rfl⟩)
          rw [hDi]
          simp only [DataW.weights, hfs]
          exact DataW.weights_mem_each (j := 2) (t := 22) htt (by rw [List.getElem?_map, hy2]; rfl) k hk))
        exact ⟨⟨z0, z1, lx⟩, hbx, c0, c1, Bx, kx, qx, c2, hIx, hNx⟩
      obtain ⟨e, hel, hq⟩ := list_choice _ len each
      refine ⟨some a, len, cap, e, rfl, ⟨(List.range (len * 3)).map (fun j => (W.cell? (a.add j)).getD undef), ⟨by simp, hl, hm, fun _ => ⟨a, rfl, fun j u hu => ?_⟩⟩, by simp [hel], fun i hil => ?_⟩, nofun, hz1, fun i hil => by
        have hs : e[i]? = some (gE e i) := by unfold gE; simp [show i < e.length by omega]
        exact (hq i _ hs).1⟩
      · rw [List.getElem?_map] at hu
        have hj : j < len * 3 := by
          rcases Nat.lt_or_ge j (len * 3) with h | h
          · exact h
          · rw [List.getElem?_eq_none (by simpa using h)] at hu; cases hu
        rw [List.getElem?_range hj] at hu
        simp only [Option.map_some, Option.some.injEq] at hu
        obtain ⟨s, _, k0, k1, B, k, q, k2, _⟩ := each (j / 3) (by omega)
        have hj3 : j = j / 3 * 3 + j % 3 := by omega
        have : ∃ v, W.cell? (a.add j) = some v := by
          have h3 : j % 3 < 3 := Nat.mod_lt _ (by omega)
          rcases (show j % 3 = 0 ∨ j % 3 = 1 ∨ j % 3 = 2 by omega) with h | h | h
          · rw [h] at hj3; rw [hj3]; exact ⟨_, k0⟩
          · rw [h] at hj3; rw [hj3]; exact ⟨_, k1⟩
          · rw [h] at hj3; rw [hj3]; exact ⟨_, k2⟩
        obtain ⟨v, hv⟩ := this
        rw [hv] at hu ⊢
        rw [← hu]; rfl
      · rw [hel] at hil
        have hs : e[i]? = some (gE e i) := by unfold gE; simp [show i < e.length by omega]
        obtain ⟨_, k0, k1, B, k, q, k2, k3, k4⟩ := hq i _ hs
        refine ⟨B, k, q, ?_, ?_, ?_, k3, k4⟩
        · rw [List.getElem?_map, List.getElem?_range (by omega)]; simp [k0]
        · rw [List.getElem?_map, List.getElem?_range (by omega)]; simp [k1]
        · rw [List.getElem?_map, List.getElem?_range (by omega)]; simp [k2]
  · cases hB
end Go.Proofs.Ythphlghblmindaa
