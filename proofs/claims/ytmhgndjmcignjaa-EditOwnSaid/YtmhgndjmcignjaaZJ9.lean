/-
  The last step of every row of this seat: the law answers true and nothing that was there has turned; and how arguments are opened.
-/
import Derived.Test.YtmhgndjmcignjaaZJ1
import Derived.JoinedCond
import Derived.Deep.Slices
import Derived.SizedLaws
import Derived.Deep.Fields
import Derived.ChangeSame
import Derived.Test.YtmhgndjmcignjaaZRegM
import Derived.OpenShut

namespace Go.Proofs.Ytmhgndjmcignjaa
open Go.ChangeShapes Go.WideShapes Go.ChangeAt Go.RowKit Go.WideElems
set_option linter.unusedVariables false
set_option linter.unusedSimpArgs false

theorem own_knob : ownKnob Try.prog.godebug = none := by kernel_rfl
theorem laid_out : laidOutB Try.prog = true := by kernel_rfl
theorem cells_int : Try.prog.cellsOf 3 = 1 := by kernel_rfl
theorem uint8_cells : Try.prog.cellsOf 5 = 1 := by kernel_rfl

section
variable {H : Type} {enc : TypeId × Value → H} {P : Program}

theorem trodAll_stays {W W' : World} (hl : laidOutB P = true) (hb : Ext W W') : ∀ (ts : List TypeId) (vs : List Value) (ds : List (DataW H)) (ps : List MemPlace), (∀ t ∈ ts, P.readableRec t = true ∧ t < P.types.size) →
    DataW.TrodAll enc P W 0 (fun _ => true) true ts vs ds ps → (∀ x ∈ ps, x.block < W.heap.size) → ∀ sp : Nat → Bool, (∀ x ∈ ps, sp x.block = true) → DataW.TrodAll enc P W' 0 sp true ts vs ds ps
  | [], vs, ds, ps, _, h, _, _, _ => by
    obtain ⟨rfl, rfl, rfl⟩ := trodAll_nil h
    exact trodAll_mk0
  | t :: ts, vs, ds, ps, hr, h, hlt, sp, hs => by
    obtain ⟨v, vs', d, ds', p, q, rfl, rfl, rfl, h0, h1⟩ := trodAll_cons h
    have a0 := Trod_stays hl (hr t (by simp)).1 (hr t (by simp)).2 (W' := W') (sp' := sp) h0 (fun x hx => Below.same hb (hlt x (by simp [hx]))) (fun x hx => hs x (by simp [hx]))
    have a1 := trodAll_stays hl hb ts vs' ds' q (fun t ht => hr t (by simp [ht])) h1 (fun x hx => hlt x (by simp [hx])) sp (fun x hx => hs x (by simp [hx]))
    exact trodAll_cons_mk a0 a1

/-- The law has answered true, and nothing that was there has turned: what the row asks behind the call. -/
theorem post_true {f : Func} {s : ChangeSpec} {apart fresh handsOn again : Bool} {W W' : World} {args : Array Value} {ds gs : List (DataW H)} {before : List MemPlace} {tb : TypeId}
    (hl : laidOutB P = true) (hr0 : (f.params.toList.all fun t => P.readableRec t && decide (t < P.types.size)) = true) (htb : P.underlying tb = some .bool) (hres : f.resultTypes = #[tb])
    (hW : DataW.Whole enc P f.params.toList s.vars apart W args.toList ds gs before) (hv0 : s.vars = [])
    (hfn : s.fn H (ds ++ gs) = { results := [.lit (.bool true)], args := ds }) (he : Ext W W') :
    s.post enc P f apart fresh handsOn again W args (.bool true) W' := by
  have hr : ∀ t ∈ f.params.toList, P.readableRec t = true ∧ t < P.types.size := fun t ht => by
    have := List.all_eq_true.1 hr0 t ht
    simpa using this
  have hlt : ∀ p ∈ before, p.block < W.heap.size := fun p hp => hW.lt p hp
  have hold : ∀ p ∈ before, (fun b => decide (b < W.heap.size)) p.block = true := fun p hp => by simpa using hlt p hp
  have hW0 := hW
  obtain ⟨p, q, hA, hV, rfl, hz, hn⟩ := hW
  rw [hv0] at hV
  obtain ⟨rfl, rfl⟩ := trodVars_none hV
  rw [List.append_nil] at *
  have hres' : ∀ (b : Nat) (sp : Nat → Bool) (hd : Bool), DataW.TrodAll enc P W' b sp hd f.resultTypes.toList ((Value.bool true).resultList f.resultTypes.size) (s.fn H ds).results [] := by
    intro b sp hd
    rw [hres, hfn]
    exact trodAll_mk1 (shut_bool htb true)
  have hargs : ∀ sp : Nat → Bool, (∀ x ∈ p, sp x.block = true) → DataW.TrodAll enc P W' 0 sp true f.params.toList args.toList (s.fn H ds).args p := by
    intro sp hs
    rw [hfn]
    exact trodAll_stays hl he _ _ _ _ hr hA hlt sp hs
  have hvars : ∀ sp : Nat → Bool, DataW.TrodVars enc P W' sp s.vars (s.fn H ds).vars [] := by
    intro sp
    rw [hv0, hfn]
    rfl
  refine ⟨ds, [], p, [], p, [], by simpa using hW0, by simpa using hres' _ _ _, by simpa using hargs _ hold, by simpa using hvars _, World.keptBut_mono (fun x hx => ⟨hx, Or.inr (by simpa using hx)⟩) (Below.frame he (· ∈ p)), fun _ => ?_⟩
  refine ⟨?_, _, _, [] ++ p, ⟨[] ++ p, [], trodAll_append (by simpa using hargs _ (fun _ _ => rfl)) (by simpa using hres' _ _ _), by simpa using hvars _, by simp, ?_, ?_⟩, ?_⟩
  · intro j t r h1 h2
    rw [hres] at h1
    obtain ⟨rfl, rfl⟩ : j = 0 ∧ t = tb := by
      rcases j with _ | j
      · simp at h1; exact ⟨rfl, h1.symm⟩
      · simp at h1
    rw [hres] at h2
    simp [Value.resultList] at h2
    subst h2
    exact okWide_bool_mk htb true
  · intro b off hp
    have hin : MemPlace.cell b off ∈ p := by simpa using hp
    rw [Below.frozen he (hlt _ hin)]
    exact hz b off hin
  · intro ha
    simpa using hn ha
  · intro x hx _
    simpa using hx

/-- An argument that is a slice of ints, opened. -/
theorem open_intsl {W : World} {base b0 : Nat} {r : Reach} {t e : TypeId} {v : Value} {d : DataW H} {p : List MemPlace} (ht : P.underlying t = some (.slice e)) (he : P.underlying e = some (.int .i64)) (hc : P.cellsOf e = 1)
    (hv : Value.okWide P W r b0 t v) (h : DataW.Trod enc P W base (fun _ => true) true t v d p) :
    ∃ A n c l, v = .slice A n c ∧ Ints W A n c l ∧ (∀ x ∈ l, (Lit.int .i64 x).wf = true) ∧
      ((d = .nil ∧ n = 0 ∧ c = 0) ∨ ∃ rest, d = .slice (lits .i64 l) (lits .i64 rest) ∧ rest.length + n = c) := by
  obtain ⟨a0, len, cap, rfl⟩ := okWide_slice ht hv
  obtain ⟨fuel, hf⟩ := h
  rcases open_ints ht he hc hf with ⟨hcs, hx⟩ | ⟨a, len', cap', zs, hcs, _, hl, hm, hz, hx, hcell, hwz⟩
  · simp [Value.cells] at hcs
    obtain ⟨rfl, rfl, rfl⟩ := hcs
    simp only [Prod.mk.injEq] at hx
    exact ⟨none, 0, 0, [], rfl, Ints.none_ W, by simp, .inl ⟨hx.1, rfl, rfl⟩⟩
  · simp [Value.cells] at hcs
    obtain ⟨rfl, rfl, rfl⟩ := hcs
    simp only [if_true] at hz
    simp only [Prod.mk.injEq] at hx
    refine ⟨some a, len, cap, zs.take len, rfl, ⟨by simp; omega, hl, hm, fun _ => ⟨a, rfl, fun j u hu => ?_⟩⟩, fun x hx => hwz x (List.mem_of_mem_take hx), .inr ⟨zs.drop len, hx.1, by simp; omega⟩⟩
    have hj := (List.getElem?_eq_some_iff.1 hu).1
    simp at hj
    rw [hcell j (by omega)]
    rw [← hu]
    simp [show j < len by omega, show j < zs.length by omega]
end
end Go.Proofs.Ytmhgndjmcignjaa

namespace Go.Proofs.Ytmhgndjmcignjaa
open Go.ChangeShapes Go.WideShapes Go.ChangeAt Go.RowKit Go.WideElems
set_option linter.unusedVariables false
set_option linter.unusedSimpArgs false

section
variable {H : Type} {enc : TypeId × Value → H} {P : Program}

def intField (P : Program) (fs : Array Field) (i : Nat) : Bool :=
  match fs[i]? with
  | some f => f.offset == i && P.cellsOf f.type == 1 && (match P.underlying f.type with | some (.int .i64) => true | _ => false)
  | none => false
def intsB (P : Program) (fs : Array Field) : Bool := (List.range fs.size).all (intField P fs)

theorem open_struct_ints {W : World} {base b0 : Nat} {r : Reach} {t : TypeId} {fs : Array Field} {v : Value} {d : DataW H} {p : List MemPlace} (ht : P.underlying t = some (.struct fs)) (hc : P.cellsOf t = fs.size) (hfs : intsB P fs = true)
    (hv : Value.okWide P W r b0 t v) (h : DataW.Trod enc P W base (fun _ => true) true t v d p) :
    ∃ zs : List Int, v = .agg (zs.map (Value.int .i64)).toArray ∧ zs.length = fs.size ∧ (∀ x ∈ zs, (Lit.int .i64 x).wf = true) := by
  obtain ⟨cs, rfl, hsz⟩ := okWide_struct ht hv
  obtain ⟨fuel, hf⟩ := h
  obtain ⟨xs, n, _, hx, hl, hxs, hall⟩ := DataW.trod_struct ht hf
  have hcs : ∀ i, i < fs.size → ∃ z, cs[i]? = some (.int .i64 z) ∧ (Lit.int .i64 z).wf = true := by
    intro i hi
    have hB := List.all_eq_true.1 hfs i (by simpa using hi)
    unfold intField at hB
    cases hfi : fs[i]? with
    | none => rw [hfi] at hB; cases hB
    | some f =>
      rw [hfi] at hB
      simp only [Bool.and_eq_true, beq_iff_eq] at hB
      obtain ⟨⟨ho, hce⟩, hty⟩ := hB
      have hu : P.underlying f.type = some (.int .i64) := by
        split at hty
        · assumption
        · cases hty
      have hd := hall i f hfi
      rw [List.getElem?_eq_getElem (by omega : i < xs.length)] at hd
      obtain ⟨z, hz, _, hw⟩ := DataW.trod_int hu hd
      refine ⟨z, ?_, hw⟩
      rw [ho, hce] at hz
      have h0 : ((cs.toList.drop i).take 1)[0]? = some (Value.int .i64 z) := by
        have : (Value.agg cs).cells.toList = cs.toList := rfl
        rw [this] at hz
        rw [hz]; rfl
      rw [List.getElem?_take, if_pos (by omega), List.getElem?_drop] at h0
      simpa using h0
  refine ⟨cs.toList.map intOf, ?_, by simp [hsz, hc], ?_⟩
  · congr 1
    apply Array.ext
    · simp
    · intro i h1 h2
      obtain ⟨z, hz, _⟩ := hcs i (by omega)
      rw [Array.getElem?_eq_getElem h1] at hz
      injection hz with hz
      simp [hz, intOf]
  · intro x hx
    obtain ⟨v, hv1, rfl⟩ := List.mem_map.1 hx
    obtain ⟨i, hi, rfl⟩ := List.mem_iff_getElem.1 hv1
    obtain ⟨z, hz, hw⟩ := hcs i (by simp at hi; omega)
    simp at hi
    rw [Array.getElem?_eq_getElem hi] at hz
    injection hz with hz
    simp [hz, intOf, hw]
end
theorem list_len2 (zs : List Int) (h : zs.length = 2) : ∃ a b, zs = [a, b] := by
  match zs, h with
  | [a, b], _ => exact ⟨a, b, rfl⟩
theorem list_len3 (zs : List Int) (h : zs.length = 3) : ∃ a b c, zs = [a, b, c] := by
  match zs, h with
  | [a, b, c], _ => exact ⟨a, b, c, rfl⟩
theorem list_len5 (zs : List Int) (h : zs.length = 5) : ∃ a b c d e, zs = [a, b, c, d, e] := by
  match zs, h with
  | [a, b, c, d, e], _ => exact ⟨a, b, c, d, e, rfl⟩
end Go.Proofs.Ytmhgndjmcignjaa

namespace Go.Proofs.Ytmhgndjmcignjaa
open Go.ChangeShapes Go.WideShapes Go.ChangeAt Go.RowKit Go.WideElems
set_option linter.unusedVariables false
set_option linter.unusedSimpArgs false

theorem reach_num : reachBytes = 140737488351232 := by decide
theorem sized_ints {H : Type} {P : Program} {ts : List TypeId} {ds : List (DataW H)} (h : (DataW.weightsEach P ts ds).all (· ≤ reachBytes) = true) {j : Nat} {t e : TypeId} {d : DataW H} {l : List Int} {n c : Nat}
    (ht : ts[j]? = some t) (hd : ds[j]? = some d) (hu : P.underlying t = some (.slice e)) (hb : P.bytesOf e = 8) (hl : l.length = n)
    (he : (d = .nil ∧ n = 0 ∧ c = 0) ∨ ∃ rest, d = .slice (lits .i64 l) (lits .i64 rest) ∧ rest.length + n = c) : n * 8 ≤ 140737488351232 := by
  rcases he with ⟨_, rfl, _⟩ | ⟨rest, rfl, _⟩
  · omega
  · have := sized_slice h ht hd hu
    rw [hb, reach_num] at this
    have hll : (lits (H := H) .i64 l).length = n := by simp [lits, hl]
    rw [hll] at this
    omega

/-- As open_intsl; and the nil slice has no capacity. -/
theorem open_intslA {H : Type} {enc : TypeId × Value → H} {P : Program} {W : World} {base b0 : Nat} {r : Reach} {t e : TypeId} {v : Value} {d : DataW H} {p : List MemPlace} (ht : P.underlying t = some (.slice e)) (he : P.underlying e = some (.int .i64)) (hc : P.cellsOf e = 1)
    (hv : Value.okWide P W r b0 t v) (h : DataW.Trod enc P W base (fun _ => true) true t v d p) :
    ∃ A n c l, v = .slice A n c ∧ Ints W A n c l ∧ (∀ x ∈ l, (Lit.int .i64 x).wf = true) ∧
      ((d = .nil ∧ n = 0 ∧ c = 0) ∨ ∃ rest, d = .slice (lits .i64 l) (lits .i64 rest) ∧ rest.length + n = c) ∧ (A = none → c = 0) := by
  obtain ⟨A, n, c, l, rfl, h1, h2, h3⟩ := open_intsl ht he hc hv h
  refine ⟨A, n, c, l, rfl, h1, h2, h3, ?_⟩
  rintro rfl
  rcases h3 with ⟨_, _, h0⟩ | ⟨rest, rfl, hr⟩
  · exact h0
  · obtain ⟨fuel, hf⟩ := h
    rcases DataW.trod_slice ht hf with ⟨_, hx⟩ | ⟨a, len, cap, elems, rest', n', _, hcs, _⟩
    · simp only [Prod.mk.injEq] at hx
      exact absurd hx.1 (by simp)
    · simp [Value.cells] at hcs
end Go.Proofs.Ytmhgndjmcignjaa

namespace Go.Proofs.Ytmhgndjmcignjaa
open Go.ChangeShapes Go.WideShapes Go.ChangeAt Go.RowKit Go.WideElems Go.Deep
set_option linter.unusedVariables false
set_option linter.unusedSimpArgs false

theorem in_bytesN : Try.prog.bytesOf 3 = 8 := by kernel_rfl
/-- A struct of a slice of ints and an int. -/
def twoB (P : Program) (t s i : TypeId) : Bool :=
  match P.underlying t with
  | some (.struct fs) => oneCellFields P fs && fs.size == 2 && P.cellsOf t == 2 && ((fs[0]?).map (·.type) == some s) && ((fs[1]?).map (·.type) == some i)
  | _ => false
/-- A slice of numbers, opened. -/
theorem open_slN {H : Type} {enc : TypeId × Value → H} {W : World} {base fuel : Nat} {v : Value} {x : DataW H × List MemPlace}
    (h : DataW.trod enc Try.prog W base (fun _ => true) true fuel 22 [v] = some x) (hw : ∀ k ∈ x.1.weights Try.prog 22, k ≤ 140737488351232) :
    ∃ l, (∃ A n c, v = .slice A n c ∧ Ints W A n c l ∧ (A = none → c = 0) ∧ n ≤ c) ∧ l.length * 8 ≤ 140737488351232 ∧ (∀ y ∈ l, (Lit.int .i64 y).wf = true) := by
  rcases open_ints Try.underlying22 Try.underlying3 cells_int h with ⟨hcs, _⟩ | ⟨b, k, q, zs, hcs, _, hk, hq, hzl, hx, hcell, hwf⟩
  · simp only [List.cons.injEq, and_true] at hcs
    subst hcs
    exact ⟨[], ⟨none, 0, 0, rfl, Ints.none_ W, fun _ => rfl, by omega⟩, by simp, by simp⟩
  · simp only [List.cons.injEq, and_true] at hcs
    subst hcs
    subst hx
    simp only [if_true] at hzl
    have h1 : (k + (zs.length - k)) * 8 ≤ 140737488351232 := hw _ (by
      simp only [DataW.weights, Try.underlying22]
      refine List.mem_cons.2 (.inl ?_)
      rw [in_bytesN]
      simp [lits]
      rw [Nat.min_eq_left (by omega)])
    refine ⟨zs.take k, ⟨some b, k, q, rfl, ⟨by simp; omega, hk, hq, fun _ => ⟨b, rfl, fun j u hu => ?_⟩⟩, nofun, by omega⟩, by rw [List.length_take]; omega, fun y hy => hwf y (List.mem_of_mem_take hy)⟩
    have hj := (List.getElem?_eq_some_iff.1 hu).1
    simp at hj
    rw [hcell j (by omega)]
    rw [← hu]
    simp [show j < k by omega, show j < zs.length by omega]


set_option maxRecDepth 20000 in
theorem line_type : twoB Try.prog 24 22 3 = true := by kernel_rfl
set_option maxRecDepth 20000 in
theorem open_lineW {H : Type} {enc : TypeId × Value → H} {W : World} {base b0 : Nat} {r : Reach} {v : Value} {d : DataW H} {p : List MemPlace} {ts : List TypeId} {ds : List (DataW H)} {j : Nat}
    (hsz0 : (DataW.weightsEach Try.prog ts ds).all (· ≤ reachBytes) = true) (htj : ts[j]? = some 24) (hdj : ds[j]? = some d)
    (hv : Value.okWide Try.prog W r b0 24 v) (h : DataW.Trod enc Try.prog W base (fun _ => true) true 24 v d p) :
    ∃ A n c l a, v = .agg #[.slice A n c, .int .i64 a] ∧ Ints W A n c l ∧ (A = none → c = 0) ∧ n * 8 ≤ 140737488351232 ∧ (∀ y ∈ l, (Lit.int .i64 y).wf = true) := by
  have hB := line_type
  unfold twoB at hB
  split at hB
  · rename_i fs hfs
    simp only [Bool.and_eq_true, beq_iff_eq] at hB
    obtain ⟨⟨⟨⟨hone, hsz⟩, hce⟩, h0⟩, h1⟩ := hB
    obtain ⟨cs, rfl, hcz⟩ := okWide_struct hfs hv
    obtain ⟨fuel, hf⟩ := h
    obtain ⟨xs, n', _, hx, hl, hxs, hall⟩ := DataW.trod_struct hfs hf
    simp only [Prod.mk.injEq] at hx
    obtain ⟨f0, hf0, ht0⟩ := Option.map_eq_some_iff.1 h0
    obtain ⟨f1, hf1, ht1⟩ := Option.map_eq_some_iff.1 h1
    obtain ⟨u0, u1, rfl⟩ : ∃ u0 u1, cs = #[u0, u1] := by
      have h2 : cs.size = 2 := by omega
      refine ⟨cs[0]'(by omega), cs[1]'(by omega), ?_⟩
      apply Array.ext
      · simpa using h2
      · intro i h3 h4
        have : i = 0 ∨ i = 1 := by omega
        rcases this with rfl | rfl <;> rfl
    obtain ⟨o0, k0⟩ := hone_of hone 0 f0 hf0
    obtain ⟨o1, k1⟩ := hone_of hone 1 f1 hf1
    have t0 := hall 0 f0 hf0
    have t1 := hall 1 f1 hf1
    have hx0 : 0 < xs.length := by omega
    rw [o0, k0, ht0, List.getElem?_eq_getElem hx0] at t0
    rw [o1, k1, ht1, List.getElem?_eq_getElem (by omega : 1 < xs.length)] at t1
    rw [show (List.take 1 (List.drop 0 (Value.agg #[u0, u1]).cells.toList)) = [u0] from rfl] at t0
    rw [show (List.take 1 (List.drop 1 (Value.agg #[u0, u1]).cells.toList)) = [u1] from rfl] at t1
    obtain ⟨z1, hz1, _, _⟩ := DataW.trod_int Try.underlying3 t1
    injection hz1 with hz1
    subst hz1
    have ht0' : (fs.toList.map (·.type))[0]? = some 22 := by
      rw [List.getElem?_map]
      have : fs.toList[0]? = some f0 := by simpa using hf0
      rw [this, Option.map_some, ht0]
    obtain ⟨l, ⟨A, n, c, rfl, hI, hN, _⟩, hb, hw⟩ := open_slN t0 (fun k hk => by
      have h2 : k ∈ d.weights Try.prog 24 := by
        rw [hx.1]
        simp only [DataW.weights, hfs]
        exact DataW.weights_mem_each (j := 0) (t := 22) ht0' (by rw [List.getElem?_map, List.getElem?_eq_getElem hx0]; rfl) k hk
      have := List.all_eq_true.1 hsz0 _ (DataW.weights_mem_each htj hdj k h2)
      rw [reach_num] at this
      simpa using this)
    exact ⟨A, n, c, l, z1, rfl, hI, hN, by rw [← hI.len]; exact hb, hw⟩
  · cases hB
set_option maxRecDepth 20000 in
theorem open_line {H : Type} {enc : TypeId × Value → H} {W : World} {base b0 : Nat} {r : Reach} {v : Value} {d : DataW H} {p : List MemPlace} {ts : List TypeId} {ds : List (DataW H)} {j : Nat}
    (hsz0 : (DataW.weightsEach Try.prog ts ds).all (· ≤ reachBytes) = true) (htj : ts[j]? = some 24) (hdj : ds[j]? = some d)
    (hv : Value.okWide Try.prog W r b0 24 v) (h : DataW.Trod enc Try.prog W base (fun _ => true) true 24 v d p) :
    ∃ A n c l a, v = .agg #[.slice A n c, .int .i64 a] ∧ Ints W A n c l ∧ (A = none → c = 0) ∧ n * 8 ≤ 140737488351232 :=
  let ⟨A, n, c, l, a, h1, h2, h3, h4, _⟩ := open_lineW hsz0 htj hdj hv h; ⟨A, n, c, l, a, h1, h2, h3, h4⟩
end Go.Proofs.Ytmhgndjmcignjaa

namespace Go.Proofs.Ytmhgndjmcignjaa
open Go.ChangeShapes Go.WideShapes Go.ChangeAt Go.RowKit Go.WideElems
set_option linter.unusedVariables false
set_option linter.unusedSimpArgs false

set_option maxRecDepth 20000 in
theorem regs_cells : Try.prog.cellsOf 30 = 27 := by kernel_rfl
theorem slice_cells : Try.prog.cellsOf 22 = 1 := by kernel_rfl
theorem int_bytes : Try.prog.bytesOf 3 = 8 := by kernel_rfl
theorem okWide_array {P : Program} {W : World} {r : Reach} {base : Nat} {t e : TypeId} {n : Nat} {v : Value} (ht : P.underlying t = some (.array n e)) (h : Value.okWide P W r base t v) : ∃ cs, v = .agg cs ∧ cs.size = P.cellsOf t := by
  simp only [Value.okWide, ht] at h
  obtain ⟨cs, h1, h2, _⟩ := h
  exact ⟨cs, h1, h2⟩
theorem weightsAll_mem {H : Type} {P : Program} {e : TypeId} {d : DataW H} {k : Nat} (hk : k ∈ d.weights P e) : ∀ {l : List (DataW H)}, d ∈ l → k ∈ DataW.weightsAll P e l
  | x :: l, h => by
    rw [DataW.weightsAll, List.mem_append]
    rcases List.mem_cons.1 h with rfl | h
    · exact .inl hk
    · exact .inr (weightsAll_mem hk h)
set_option maxRecDepth 20000 in
theorem open_regs {H : Type} {enc : TypeId × Value → H} {W : World} {base b0 : Nat} {r : Reach} {v : Value} {d : DataW H} {p : List MemPlace} {ts : List TypeId} {ds : List (DataW H)} {j : Nat}
    (hsz : (DataW.weightsEach Try.prog ts ds).all (· ≤ reachBytes) = true) (htj : ts[j]? = some 30) (hdj : ds[j]? = some d)
    (hv : Value.okWide Try.prog W r b0 30 v) (h : DataW.Trod enc Try.prog W base (fun _ => true) true 30 v d p) :
    ∃ cs rs, v = .agg cs ∧ Regs W cs rs ∧ ∀ i, i < 27 → (rs i).length * 8 ≤ 140737488351232 := by
  have hu : Try.prog.underlying 30 = some (.array 27 22) := Try.underlying30
  obtain ⟨cs, rfl, hcs⟩ := okWide_array hu hv
  rw [regs_cells] at hcs
  obtain ⟨fuel, hf⟩ := h
  obtain ⟨xs, m, _, hx, hl, hxs, hall⟩ := DataW.trod_array hu hf
  simp only [Prod.mk.injEq] at hx
  have each : ∀ i, i < 27 → ∃ l, (∃ u, cs[i]? = some u ∧ RegSl W u l) ∧ l.length * 8 ≤ 140737488351232 := by
    intro i hi
    have h1 := hall i hi
    rw [slice_cells, Nat.mul_one, List.getElem?_eq_getElem (by omega : i < xs.length)] at h1
    have hil : i < cs.size := by omega
    have h2 : ((Value.agg cs).cells.toList.drop i).take 1 = [cs[i]] := by
      show (cs.toList.drop i).take 1 = _
      rw [List.drop_eq_getElem_cons (by simpa using hil)]
      simp
    rw [h2] at h1
    rcases open_ints Try.underlying22 Try.underlying3 cells_int h1 with ⟨hc1, _⟩ | ⟨b, k, q, zs, hc1, _, hk, hq, hzl, hx1, hcell, _⟩
    · injection hc1 with hc1
      exact ⟨[], ⟨_, Array.getElem?_eq_getElem hil, none, 0, 0, hc1, Ints.none_ W, fun _ => rfl, by omega⟩, by simp⟩
    · injection hc1 with hc1
      simp only [if_true] at hzl
      have hmem : (xs[i]'(by omega)).1 ∈ xs.map (·.1) := List.mem_map_of_mem (List.getElem_mem _)
      rw [hx1] at hmem
      have hw : (k + (zs.length - k)) * 8 ∈ (DataW.slice (H := H) (lits .i64 (zs.take k)) (lits .i64 (zs.drop k))).weights Try.prog 22 := by
        rw [DataW.weights, Try.underlying22]
        refine List.mem_cons.2 (.inl ?_)
        rw [int_bytes]
        congr 1
        simp [lits]
        omega
      have hw2 : (k + (zs.length - k)) * 8 ∈ (DataW.agg (xs.map (·.1))).weights Try.prog 30 := by
        rw [DataW.weights, hu]
        exact weightsAll_mem hw hmem
      have hw3 := List.all_eq_true.1 hsz _ (DataW.weights_mem_each htj (by rw [hdj, hx.1]) _ hw2)
      rw [reach_num] at hw3
      have hw4 : (k + (zs.length - k)) * 8 ≤ 140737488351232 := by simpa using hw3
      refine ⟨zs.take k, ⟨_, Array.getElem?_eq_getElem hil, some b, k, q, hc1, ⟨by simp; omega, hk, hq, fun _ => ⟨b, rfl, fun j' u hu' => ?_⟩⟩, nofun, by omega⟩, by rw [List.length_take]; omega⟩
      have hj := (List.getElem?_eq_some_iff.1 hu').1
      simp at hj
      rw [hcell j' (by omega)]
      rw [← hu']
      simp [show j' < k by omega, show j' < zs.length by omega]
  refine ⟨cs, fun i => if h : i < 27 then (each i h).choose else [], rfl, ⟨hcs, fun i hi => ?_⟩, fun i hi => ?_⟩
  · simp only [dif_pos hi]
    exact (each i hi).choose_spec.1
  · simp only [dif_pos hi]
    exact (each i hi).choose_spec.2
end Go.Proofs.Ytmhgndjmcignjaa
