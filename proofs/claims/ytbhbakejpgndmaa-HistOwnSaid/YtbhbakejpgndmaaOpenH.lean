/-
  An argument that is a history, opened.
-/
import Derived.Test.YtbhbakejpgndmaaOpenL
import Derived.Test.YtbhbakejpgndmaaHisC
import Derived.Deep.Fields
import Derived.ChangeSame
namespace Go.Proofs.Ytbhbakejpgndmaa
open Go.ChangeShapes Go.WideShapes Go.ChangeAt Go.RowKit Go.WideElems Go.Deep
set_option linter.unusedVariables false

/-- A struct of six fields of one cell each, of these types. -/
def sixB (P : Program) (t : TypeId) (ts : List TypeId) : Bool :=
  match P.underlying t with
  | some (.struct fs) => oneCellFields P fs && fs.size == 6 && P.cellsOf t == 6 && (fs.toList.map (·.type) == ts)
  | _ => false
theorem hist_type : sixB Try.prog 55 [53, 3, 3, 22, 22, 4] = true := by kernel_rfl
theorem list6 {cs : Array Value} (h : cs.size = 6) : ∃ a b c d e f, cs = #[a, b, c, d, e, f] := by
  obtain ⟨l⟩ := cs
  match l, h with
  | [a, b, c, d, e, f], _ => exact ⟨a, b, c, d, e, f, rfl⟩

theorem open_hist {H : Type} {enc : TypeId × Value → H} {W : World} {base b0 : Nat} {r : Reach} {v : Value} {d : DataW H} {p : List MemPlace} {ts : List TypeId} {ds : List (DataW H)} {j : Nat}
    (hsz : (DataW.weightsEach Try.prog ts ds).all (· ≤ reachBytes) = true) (htj : ts[j]? = some 55) (hdj : ds[j]? = some d)
    (hv : Value.okWide Try.prog W r b0 55 v) (h : DataW.Trod enc Try.prog W base (fun _ => true) true 55 v d p) :
    ∃ hi, HisV W v hi ∧ (∀ i, i < hi.lines.length → (gL hi.lines i).length * 8 ≤ 140737488351232) ∧ hi.scratch.length * 8 ≤ 140737488351232 ∧ hi.pattern.length * 8 ≤ 140737488351232 ∧ hi.lines.length * 24 ≤ 140737488351232 := by
  have hB := hist_type
  unfold sixB at hB
  split at hB
  · rename_i fs hfs
    simp only [Bool.and_eq_true, beq_iff_eq] at hB
    obtain ⟨⟨⟨hone, hsz6⟩, hce⟩, hts⟩ := hB
    obtain ⟨cs, rfl, hcz⟩ := okWide_struct hfs hv
    obtain ⟨fuel, hf⟩ := h
    obtain ⟨xs, n', _, hx, hl, hxs, hall⟩ := DataW.trod_struct hfs hf
    simp only [Prod.mk.injEq] at hx
    obtain ⟨u0, u1, u2, u3, u4, u5, rfl⟩ := list6 (cs := cs) (by omega)
    have ft : ∀ (i : Nat) (t : TypeId), [53, 3, 3, 22, 22, 4][i]? = some t → ∃ f, fs[i]? = some f ∧ f.type = t := fun i t ht => by
      rw [← hts, List.getElem?_map] at ht
      obtain ⟨f, h1, h2⟩ := Option.map_eq_some_iff.1 ht
      exact ⟨f, by simpa using h1, h2⟩
    have part : ∀ (i : Nat) (t : TypeId) (u : Value), [53, 3, 3, 22, 22, 4][i]? = some t → ((Value.agg #[u0, u1, u2, u3, u4, u5]).cells.toList.drop i).take 1 = [u] →
        ∃ y, DataW.trod enc Try.prog W base (fun _ => true) true n' t [u] = some y ∧ ∀ k ∈ y.1.weights Try.prog t, k ≤ 140737488351232 := fun i t u ht hu => by
      obtain ⟨f, hfi, hft⟩ := ft i t ht
      obtain ⟨o0, k0⟩ := hone_of hone i f hfi
      have h1 := hall i f hfi
      have hi6 : i < xs.length := by
        have := (Array.getElem?_eq_some_iff.1 hfi).1
        omega
      rw [o0, k0, hft, hu, List.getElem?_eq_getElem hi6] at h1
      refine ⟨_, h1, fun k hk => ?_⟩
      have h2 : k ∈ d.weights Try.prog 55 := by
        rw [hx.1]
        simp only [DataW.weights, hfs]
        exact DataW.weights_mem_each (j := i) (t := t) (by rw [hts]; exact ht) (by rw [List.getElem?_map, List.getElem?_eq_getElem hi6]; rfl) k hk
      have := List.all_eq_true.1 hsz _ (DataW.weights_mem_each htj hdj k h2)
      rw [reach_num] at this
      simpa using this
    obtain ⟨y0, t0, w0⟩ := part 0 _ u0 rfl rfl
    obtain ⟨y1, t1, w1⟩ := part 1 _ u1 rfl rfl
    obtain ⟨y2, t2, w2⟩ := part 2 _ u2 rfl rfl
    obtain ⟨y3, t3, w3⟩ := part 3 _ u3 rfl rfl
    obtain ⟨y4, t4, w4⟩ := part 4 _ u4 rfl rfl
    obtain ⟨y5, t5, w5⟩ := part 5 _ u5 rfl rfl
    obtain ⟨A, n, c, ls, rfl, hL, hA, hn24, hln⟩ := open_lns t0 w0
    obtain ⟨z1, hz1, _, _⟩ := DataW.trod_int Try.underlying3 t1
    obtain ⟨z2, hz2, _, _⟩ := DataW.trod_int Try.underlying3 t2
    obtain ⟨z5, hz5, _⟩ := DataW.trod_bool Try.underlying4 t5
    obtain ⟨l3, h3, b3, _⟩ := open_sl t3 w3
    obtain ⟨l4, h4, b4, _⟩ := open_sl t4 w4
    injection hz1 with hz1
    injection hz2 with hz2
    injection hz5 with hz5
    subst hz1; subst hz2; subst hz5
    have hlen := hL.len
    obtain ⟨S, sn, sc, rfl, k3⟩ := h3
    obtain ⟨P, pn, pc, rfl, k4⟩ := h4
    exact ⟨⟨ls, z1, z2, l3, l4, z5⟩, ⟨A, n, c, S, sn, sc, P, pn, pc, rfl, hL, hA, ⟨S, sn, sc, rfl, k3⟩, ⟨P, pn, pc, rfl, k4⟩⟩, fun i hi => hln i (by simp only at hi; omega), b3, b4, by simp only; omega⟩
  · cases hB
end Go.Proofs.Ytbhbakejpgndmaa
