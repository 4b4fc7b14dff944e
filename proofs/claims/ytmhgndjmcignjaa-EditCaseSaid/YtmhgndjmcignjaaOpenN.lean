/-
  An argument that is a line, or a row of a terminal, opened, with what the reach gives of its cells.
-/
import Derived.Test.YtmhgndjmcignjaaSized
import Derived.Deep.Fields
import Derived.ChangeSame
namespace Go.Proofs.Ytmhgndjmcignjaa
open Go.ChangeShapes Go.WideShapes Go.ChangeAt Go.RowKit Go.WideElems Go.Deep
set_option linter.unusedVariables false

theorem in_bytesN : Try.prog.bytesOf 3 = 8 := by kernel_rfl
/-- A struct of a slice of ints and an int. -/
def twoB (P : Program) (t s i : TypeId) : Bool :=
  match P.underlying t with
  | some (.struct fs) => oneCellFields P fs && fs.size == 2 && P.cellsOf t == 2 && ((fs[0]?).map (·.type) == some s) && ((fs[1]?).map (·.type) == some i)
  | _ => false
/-- A slice of numbers, opened. -/
theorem open_slN {H : Type} {enc : TypeId × Value → H} {W : World} {base fuel : Nat} {v : Value} {x : DataW H × List MemPlace}
    (h : DataW.trod enc Try.prog W base (fun _ => true) true fuel 22 [v] = some x) (hw : ∀ k ∈ x.1.weights Try.prog 22, k ≤ 140737488351232) :
    ∃ l, (∃ A n c, v = .slice A n c ∧ Ints W A n c l ∧ (A = none → c = 0) ∧ n ≤ c) ∧ l.length * 8 ≤ 140737488351232 ∧ (∀ y ∈ l, (Lit.int .i64 y).wf = true) := by
  rcases open_ints Try.underlying22 Try.underlying3 cells_int h with ⟨hcs, _⟩ | ⟨b, k, q, zs, hcs, _, hk, hq, hzl, hx, hcell, hwf⟩
  · simp only [List.cons.injEq, and_true] at hcs
    subst hcs
    exact ⟨[], ⟨none, 0, 0, rfl, Ints.none_ W, fun _ => rfl, by omega⟩, by simp, by simp⟩
  · simp only [List.cons.injEq, and_true] at hcs
    subst hcs
    subst hx
    simp only [if_true] at hzl
    have h1 : (k + (zs.length - k)) * 8 ≤ 140737488351232 := hw _ (by
      simp only [DataW.weights, Try.underlying22]
      refine List.mem_cons.2 (.inl ?_)
      rw [in_bytesN]
      simp [lits]
      rw [Nat.min_eq_left (by omega)])
    refine ⟨zs.take k, ⟨some b, k, q, rfl, ⟨by simp; omega, hk, hq, fun _ => ⟨b, rfl, fun j u hu => ?_⟩⟩, nofun, by omega⟩, by rw [List.length_take]; omega, fun y hy => hwf y (List.mem_of_mem_take hy)⟩
    have hj := (List.getElem?_eq_some_iff.1 hu).1
    simp at hj
    rw [hcell j (by omega)]
    rw [← hu]
    simp [show j < k by omega, show j < zs.length by omega]


set_option maxRecDepth 20000 in
theorem line_type : twoB Try.prog 24 22 3 = true := by kernel_rfl
set_option maxRecDepth 20000 in
theorem open_line {H : Type} {enc : TypeId × Value → H} {W : World} {base b0 : Nat} {r : Reach} {v : Value} {d : DataW H} {p : List MemPlace} {ts : List TypeId} {ds : List (DataW H)} {j : Nat}
    (hsz0 : (DataW.weightsEach Try.prog ts ds).all (· ≤ reachBytes) = true) (htj : ts[j]? = some 24) (hdj : ds[j]? = some d)
    (hv : Value.okWide Try.prog W r b0 24 v) (h : DataW.Trod enc Try.prog W base (fun _ => true) true 24 v d p) :
    ∃ A n c l a, v = .agg #[.slice A n c, .int .i64 a] ∧ Ints W A n c l ∧ (A = none → c = 0) ∧ n * 8 ≤ 140737488351232 := by
  have hB := line_type
  unfold twoB at hB
  split at hB
  · rename_i fs hfs
    simp only [Bool.and_eq_true, beq_iff_eq] at hB
    obtain ⟨⟨⟨⟨hone, hsz⟩, hce⟩, h0⟩, h1⟩ := hB
    obtain ⟨cs, rfl, hcz⟩ := okWide_struct hfs hv
    obtain ⟨fuel, hf⟩ := h
    obtain ⟨xs, n', _, hx, hl, hxs, hall⟩ := DataW.trod_struct hfs hf
    simp only [Prod.mk.injEq] at hx
    obtain ⟨f0, hf0, ht0⟩ := Option.map_eq_some_iff.1 h0
    obtain ⟨f1, hf1, ht1⟩ := Option.map_eq_some_iff.1 h1
    obtain ⟨u0, u1, rfl⟩ : ∃ u0 u1, cs = #[u0, u1] := by
      have h2 : cs.size = 2 := by omega
      refine ⟨cs[0]'(by omega), cs[1]'(by omega), ?_⟩
      apply Array.ext
      · simpa using h2
      · intro i h3 h4
        have : i = 0 ∨ i = 1 := by omega
        rcases this with rfl | rfl <;> rfl
    obtain ⟨o0, k0⟩ := hone_of hone 0 f0 hf0
    obtain ⟨o1, k1⟩ := hone_of hone 1 f1 hf1
    have t0 := hall 0 f0 hf0
    have t1 := hall 1 f1 hf1
    have hx0 : 0 < xs.length := by omega
    rw [o0, k0, ht0, List.getElem?_eq_getElem hx0] at t0
    rw [o1, k1, ht1, List.getElem?_eq_getElem (by omega : 1 < xs.length)] at t1
    rw [show (List.take 1 (List.drop 0 (Value.agg #[u0, u1]).cells.toList)) = [u0] from rfl] at t0
    rw [show (List.take 1 (List.drop 1 (Value.agg #[u0, u1]).cells.toList)) = [u1] from rfl] at t1
    obtain ⟨z1, hz1, _, _⟩ := DataW.trod_int Try.underlying3 t1
    injection hz1 with hz1
    subst hz1
    have ht0' : (fs.toList.map (·.type))[0]? = some 22 := by
      rw [List.getElem?_map]
      have : fs.toList[0]? = some f0 := by simpa using hf0
      rw [this, Option.map_some, ht0]
    obtain ⟨l, ⟨A, n, c, rfl, hI, hN, _⟩, hb, _⟩ := open_slN t0 (fun k hk => by
      have h2 : k ∈ d.weights Try.prog 24 := by
        rw [hx.1]
        simp only [DataW.weights, hfs]
        exact DataW.weights_mem_each (j := 0) (t := 22) ht0' (by rw [List.getElem?_map, List.getElem?_eq_getElem hx0]; rfl) k hk
      have := List.all_eq_true.1 hsz0 _ (DataW.weights_mem_each htj hdj k h2)
      rw [reach_num] at this
      simpa using this)
    exact ⟨A, n, c, l, z1, rfl, hI, hN, by rw [← hI.len]; exact hb⟩
  · cases hB
end Go.Proofs.Ytmhgndjmcignjaa
