/-
  An argument that is a slice of splices, opened.
-/
import Derived.Test.YthphlghblmindaaShell
import Derived.Test.YthphlghblmindaaSplW
import Derived.Deep.Slices
import Derived.Deep.Fields
import Derived.ChangeSame
namespace Go.Proofs.Ythphlghblmindaa
open Go.ChangeShapes Go.WideShapes Go.ChangeAt Go.RowKit Go.WideElems Go.Deep
set_option linter.unusedVariables false

section
variable {H : Type} {enc : TypeId × Value → H} {P : Program} {w : World} {base : Nat} {spare : Nat → Bool} {held : Bool}
theorem open_slice_fields {t e : TypeId} {fs : Array Field} {fuel : Nat} {cs : List Value} {x : DataW H × List MemPlace} (ht : P.underlying t = some (.slice e)) (he : P.underlying e = some (.struct fs))
    (hone : oneCellFields P fs = true) (hC : P.cellsOf e = fs.size) (h : DataW.trod enc P w base spare held fuel t cs = some x) :
    (cs = [.slice none 0 0] ∧ x = (.nil, [])) ∨
    ∃ (a : Addr) (len cap m : Nat) (D : Nat → DataW H) (Pl : Nat → List MemPlace), cs = [.slice (some a) len cap] ∧ base ≤ a.block ∧ len ≤ cap ∧ cap ≤ maxLen ∧ m = (if spare a.block then cap else len) ∧
      x = (.slice ((List.range len).map D) ((List.range (m - len)).map fun j => D (len + j)), MemPlace.row a (m * fs.size) ++ (List.range m).flatMap Pl) ∧
      ∀ i, i < m → ∃ (ys : List (DataW H × List MemPlace)) (n : Nat), D i = .agg (ys.map (·.1)) ∧ Pl i = ys.flatMap (·.2) ∧ ys.length = fs.size ∧
        ∀ (j : Nat) (f : Field), fs[j]? = some f → ∃ (v : Value) (y : DataW H × List MemPlace), w.cell? (a.add (i * fs.size + j)) = some v ∧ ys[j]? = some y ∧ DataW.trod enc P w base spare held n f.type [v] = some y := by
  rcases open_slice ht h with h0 | ⟨a, len, cap, m, n, D, Pl, hcs, hb, hl, hm, hmm, hx, hi⟩
  · exact .inl h0
  · refine .inr ⟨a, len, cap, m, D, Pl, hcs, hb, hl, hm, hmm, by rw [hC] at hx; exact hx, fun i him => ?_⟩
    obtain ⟨cs', hc, ht'⟩ := hi i him
    rw [hC] at hc
    obtain ⟨ys, n', hn', hy, hlen, hyl, hf⟩ := DataW.trod_struct he ht'
    obtain ⟨_, hcl, hat⟩ := World.cells?_some hc
    simp only [Prod.mk.injEq] at hy
    refine ⟨ys, n', hy.1, hy.2, hyl, fun j f hj => ?_⟩
    obtain ⟨ho, hk⟩ := hone_of hone j f hj
    have hjl : j < fs.size := (Array.getElem?_eq_some_iff.1 hj).1
    have hcell := hat j hjl
    have hv : cs'[j]? = some (cs'[j]'(by omega)) := List.getElem?_eq_getElem (by omega)
    have h1 := hf j f hj
    rw [ho, hk] at h1
    have hone' : (cs'.drop j).take 1 = [cs'[j]'(by omega)] := by
      rw [List.drop_eq_getElem_cons (by omega)]
      rfl
    rw [hone'] at h1
    have hys : ys[j]? = some (ys[j]'(by omega)) := List.getElem?_eq_getElem (by omega)
    refine ⟨_, _, ?_, hys, h1.trans hys⟩
    rw [← Go.Deep.add_add, hcell, hv]
end

theorem list_choice {α : Type} (Q : Nat → α → Prop) : ∀ n : Nat, (∀ i, i < n → ∃ s, Q i s) → ∃ l : List α, l.length = n ∧ ∀ i s, l[i]? = some s → Q i s
  | 0, _ => ⟨[], rfl, fun i s h => by simp at h⟩
  | n + 1, h => by
    obtain ⟨l, hl, hq⟩ := list_choice Q n (fun i hi => h i (by omega))
    obtain ⟨s, hs⟩ := h n (by omega)
    refine ⟨l ++ [s], by simp [hl], fun i u hu => ?_⟩
    rcases Nat.lt_or_ge i l.length with h1 | h1
    · rw [List.getElem?_append_left h1] at hu
      exact hq i u hu
    · rw [List.getElem?_append_right h1] at hu
      have h2 : i - l.length = 0 := by
        rcases Nat.eq_zero_or_pos (i - l.length) with h2 | h2
        · exact h2
        · rw [List.getElem?_eq_none (by simp; omega)] at hu; cases hu
      rw [h2] at hu
      injection hu with hu
      subst hu
      rw [show i = n by omega]; exact hs

/-- A struct of two ints and a slice of ints. -/
def spliceB (P : Program) (t i s : TypeId) : Bool :=
  match P.underlying t with
  | some (.struct fs) => oneCellFields P fs && fs.size == 3 && P.cellsOf t == 3 && ((fs[0]?).map (·.type) == some i) && ((fs[1]?).map (·.type) == some i) && ((fs[2]?).map (·.type) == some s)
  | _ => false
set_option maxRecDepth 20000 in
theorem splice_type : spliceB Try.prog 45 3 22 = true := by kernel_rfl

set_option maxRecDepth 20000 in
theorem open_edit {H : Type} {enc : TypeId × Value → H} {W : World} {base b0 : Nat} {r : Reach} {v : Value} {d : DataW H} {p : List MemPlace}
    (hv : Value.okWide Try.prog W r b0 39 v) (h : DataW.Trod enc Try.prog W base (fun _ => true) true 39 v d p) :
    ∃ A n c e, v = .slice A n c ∧ EditAt W A n c e ∧ (A = none → c = 0) := by
  obtain ⟨a0, len, cap, rfl⟩ := okWide_slice Try.underlying39 hv
  have hB := splice_type
  unfold spliceB at hB
  split at hB
  · rename_i fs hfs
    simp only [Bool.and_eq_true, beq_iff_eq] at hB
    obtain ⟨⟨⟨⟨⟨hone, hsz⟩, hce⟩, h0⟩, h1⟩, h2⟩ := hB
    obtain ⟨fuel, hf⟩ := h
    rcases open_slice_fields Try.underlying39 hfs hone (by rw [hce, hsz]) hf with ⟨hcs, hx⟩ | ⟨a, len', cap', m, D, Pl, hcs, _, hl, hm, hmm, hx, hi⟩
    · simp [Value.cells] at hcs
      obtain ⟨rfl, rfl, rfl⟩ := hcs
      exact ⟨none, 0, 0, [], rfl, EditAt.none_ W, fun _ => rfl⟩
    · simp [Value.cells] at hcs
      obtain ⟨rfl, rfl, rfl⟩ := hcs
      simp only [if_true] at hmm
      have each : ∀ i, i < len → ∃ s : Spl, W.cell? (a.add (i * 3)) = some (.int .i64 s.f) ∧ W.cell? (a.add (i * 3 + 1)) = some (.int .i64 s.t) ∧ ∃ B k q, W.cell? (a.add (i * 3 + 2)) = some (.slice B k q) ∧ Ints W B k q s.x ∧ (B = none → q = 0) := by
        intro i hil
        obtain ⟨ys, n', _, _, hyl, hg⟩ := hi i (by omega)
        obtain ⟨f0, hf0, ht0⟩ := Option.map_eq_some_iff.1 h0
        obtain ⟨f1, hf1, ht1⟩ := Option.map_eq_some_iff.1 h1
        obtain ⟨f2, hf2, ht2⟩ := Option.map_eq_some_iff.1 h2
        obtain ⟨v0, y0, c0, _, t0⟩ := hg 0 f0 hf0
        obtain ⟨v1, y1, c1, _, t1⟩ := hg 1 f1 hf1
        obtain ⟨v2, y2, c2, _, t2⟩ := hg 2 f2 hf2
        rw [hsz] at c0 c1 c2
        rw [ht0] at t0
        rw [ht1] at t1
        rw [ht2] at t2
        obtain ⟨z0, hz0, _, _⟩ := DataW.trod_int Try.underlying3 t0
        obtain ⟨z1, hz1, _, _⟩ := DataW.trod_int Try.underlying3 t1
        injection hz0 with hz0
        injection hz1 with hz1
        subst hz0; subst hz1
        rcases open_ints Try.underlying22 Try.underlying3 cells_int t2 with ⟨hcs, _⟩ | ⟨b, k, q, zs, hcs, _, hk, hq, hzl, _, hcell, _⟩
        · injection hcs with hcs
          subst hcs
          exact ⟨⟨z0, z1, []⟩, c0, c1, none, 0, 0, c2, Ints.none_ W, fun _ => rfl⟩
        · injection hcs with hcs
          subst hcs
          simp only [if_true] at hzl
          refine ⟨⟨z0, z1, zs.take k⟩, c0, c1, some b, k, q, c2, ⟨by simp; omega, hk, hq, fun _ => ⟨b, rfl, fun j u hu => ?_⟩⟩, nofun⟩
          have hj := (List.getElem?_eq_some_iff.1 hu).1
          simp at hj
          rw [hcell j (by omega)]
          rw [← hu]
          simp [show j < k by omega, show j < zs.length by omega]
      obtain ⟨e, hel, hq⟩ := list_choice _ len each
      refine ⟨some a, len, cap, e, rfl, ⟨(List.range (len * 3)).map (fun j => (W.cell? (a.add j)).getD undef), ⟨by simp, hl, hm, fun _ => ⟨a, rfl, fun j u hu => ?_⟩⟩, by simp [hel], fun i hil => ?_⟩, nofun⟩
      · rw [List.getElem?_map] at hu
        have hj : j < len * 3 := by
          rcases Nat.lt_or_ge j (len * 3) with h | h
          · exact h
          · rw [List.getElem?_eq_none (by simpa using h)] at hu; cases hu
        rw [List.getElem?_range hj] at hu
        simp only [Option.map_some, Option.some.injEq] at hu
        obtain ⟨s, k0, k1, B, k, q, k2, _⟩ := each (j / 3) (by omega)
        have hj3 : j = j / 3 * 3 + j % 3 := by omega
        have : ∃ v, W.cell? (a.add j) = some v := by
          have h3 : j % 3 < 3 := Nat.mod_lt _ (by omega)
          rcases (show j % 3 = 0 ∨ j % 3 = 1 ∨ j % 3 = 2 by omega) with h | h | h
          · rw [h] at hj3; rw [hj3]; exact ⟨_, k0⟩
          · rw [h] at hj3; rw [hj3]; exact ⟨_, k1⟩
          · rw [h] at hj3; rw [hj3]; exact ⟨_, k2⟩
        obtain ⟨v, hv⟩ := this
        rw [hv] at hu ⊢
        rw [← hu]; rfl
      · rw [hel] at hil
        have hs : e[i]? = some (gE e i) := by unfold gE; simp [show i < e.length by omega]
        obtain ⟨k0, k1, B, k, q, k2, k3, k4⟩ := hq i _ hs
        refine ⟨B, k, q, ?_, ?_, ?_, k3, k4⟩
        · rw [List.getElem?_map, List.getElem?_range (by omega)]; simp [k0]
        · rw [List.getElem?_map, List.getElem?_range (by omega)]; simp [k1]
        · rw [List.getElem?_map, List.getElem?_range (by omega)]; simp [k2]
  · cases hB
end Go.Proofs.Ythphlghblmindaa
