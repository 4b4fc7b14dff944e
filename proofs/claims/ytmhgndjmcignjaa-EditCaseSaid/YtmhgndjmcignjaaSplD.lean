/-
  The walk of splice.Undo.
-/
import Derived.Test.YtmhgndjmcignjaaSplA
import Derived.Test.YtmhgndjmcignjaaClone
import Derived.Deep.RegionHeld3
namespace Go.Proofs.Ytmhgndjmcignjaa
open Go.RowKit
set_option linter.unusedVariables false
set_option linter.unusedSimpArgs false

theorem info_splice : (Try.prog.info? 64).map (fun i => (i.zero, i.size, i.bytes)) = some (some (.agg #[.int .i64 0, .int .i64 0, .slice none 0 0]), 3, 40) := by kernel_rfl

/-- Splices of the call's own, whose texts lie in rows of the call's own, in no such block as the row's. -/
def EditsO (w : World) (base : Nat) (row : Option Nat) (xs : List Value) (e : List Spl) : Prop :=
  xs.length = e.length * 3 ∧ ∀ i, i < e.length → ∃ B m d, xs[i * 3]? = some (.int .i64 (gE e i).f) ∧ xs[i * 3 + 1]? = some (.int .i64 (gE e i).t) ∧ xs[i * 3 + 2]? = some (.slice B m d) ∧
    OwnI w base B m d (gE e i).x ∧ (B = none → d = 0) ∧ ((Value.slice B m d).ownBlock = none ∨ (Value.slice B m d).ownBlock ≠ row)
theorem EditsO.edits {w : World} {base : Nat} {row : Option Nat} {xs : List Value} {e : List Spl} (h : EditsO w base row xs e) : Edits w xs e :=
  ⟨h.1, fun i hi => let ⟨B, m, d, h1, h2, h3, h4, h5, _⟩ := h.2 i hi; ⟨B, m, d, h1, h2, h3, h4.ints, h5⟩⟩
theorem EditsO.ext {w w' : World} {base : Nat} {row : Option Nat} {xs : List Value} {e : List Spl} (h : EditsO w base row xs e) (he : Ext w w') : EditsO w' base row xs e :=
  ⟨h.1, fun i hi => let ⟨B, m, d, h1, h2, h3, h4, h5, h6⟩ := h.2 i hi; ⟨B, m, d, h1, h2, h3, h4.ext he, h5, h6⟩⟩
theorem EditsO.grown {w w' : World} {base : Nat} {row row' : Option Nat} {xs : List Value} {e : List Spl} (h : EditsO w base row xs e) (hg : w.grownBy w' row) (hr : row' = row ∨ ∃ g, w.heap.size ≤ g ∧ row' = some g) : EditsO w' base row' xs e :=
  ⟨h.1, fun i hi => by
    obtain ⟨B, m, d, h1, h2, h3, h4, h5, h6⟩ := h.2 i hi
    refine ⟨B, m, d, h1, h2, h3, Own.kept h4 hg h6, h5, ?_⟩
    rcases hr with rfl | ⟨g, hgs, rfl⟩
    · exact h6
    · cases hb : (Value.slice B m d).ownBlock with
      | none => exact .inl rfl
      | some g' =>
        have := (Own.blk h4 g' hb).2
        exact .inr (fun e => by injection e with e; omega)⟩
theorem EditsO.nil (w : World) (base : Nat) (row : Option Nat) : EditsO w base row [] [] := ⟨rfl, fun i hi => absurd hi (by simp)⟩
/-- An edit in rows of the call's own. -/
def EdOwn (w : World) (base : Nat) (v : Value) (e : List Spl) : Prop := ∃ O k c xs row, v = .slice O k c ∧ Own w base 64 3 O k c xs ∧ EditsO w base row xs e
theorem EdOwn.nil (w : World) (base : Nat) : EdOwn w base (.slice none 0 0) [] := ⟨none, 0, 0, [], none, rfl, World.ownsRow_nil _ _ _ _, EditsO.nil _ _ _⟩
theorem EdOwn.ext {w w' : World} {base : Nat} {v : Value} {e : List Spl} (h : EdOwn w base v e) (he : Ext w w') : EdOwn w' base v e :=
  let ⟨O, k, c, xs, row, h1, h2, h3⟩ := h; ⟨O, k, c, xs, row, h1, Own.ext h2 he, h3.ext he⟩
theorem EdOwn.at_ {w : World} {base : Nat} {v : Value} {e : List Spl} (h : EdOwn w base v e) : ∃ O k c, v = .slice O k c ∧ EditAt w O k c e :=
  let ⟨O, k, c, xs, row, h1, h2, h3⟩ := h; ⟨O, k, c, h1, xs, h2.rd, h3.edits⟩
theorem EdOwn.lower {w : World} {base base' : Nat} {v : Value} {e : List Spl} (h : EdOwn w base v e) (hb : base' ≤ base) : EdOwn w base' v e :=
  let ⟨O, k, c, xs, row, h1, h2, h3⟩ := h; ⟨O, k, c, xs, row, h1, Own.lower h2 hb, h3.1, fun i hi => let ⟨B, m, d, k1, k2, k3, k4, k5, k6⟩ := h3.2 i hi; ⟨B, m, d, k1, k2, k3, Own.lower k4 hb, k5, k6⟩⟩
/-- A block below has turned. -/
theorem EdOwn.kept {w w' : World} {base : Nat} {v : Value} {e : List Spl} (h : EdOwn w base v e) {g : Option Nat} (hg : w.grownBy w' g) (hb : ∀ k, g = some k → k < base) : EdOwn w' base v e := by
  obtain ⟨O, k, c, xs, row, h1, h2, h3⟩ := h
  have key : ∀ {e' z n' c' : Nat} {A : Option Addr} {ys : List Value}, Own w base e' z A n' c' ys → Own w' base e' z A n' c' ys := fun ho => Own.kept ho hg (by
    cases hq : (Value.slice _ _ _).ownBlock with
    | none => exact .inl rfl
    | some q => exact .inr (fun e => by have h4 := hb q e.symm; have h5 := (Own.blk ho q hq).1; omega))
  exact ⟨O, k, c, xs, row, h1, key h2, h3.1, fun i hi => let ⟨B, m, d, k1, k2, k3, k4, k5, k6⟩ := h3.2 i hi; ⟨B, m, d, k1, k2, k3, key k4, k5, k6⟩⟩
theorem gE_left {e : List Spl} {s : Spl} {i : Nat} (h : i < e.length) : gE (e ++ [s]) i = gE e i := by
  unfold gE; rw [List.getElem?_append_left h]
theorem gE_last {e : List Spl} {s : Spl} : gE (e ++ [s]) e.length = s := by
  unfold gE; simp
theorem EditsO.snoc {w : World} {base : Nat} {row : Option Nat} {xs : List Value} {e : List Spl} (h : EditsO w base row xs e) {s : Spl} {B : Option Addr} {m d : Nat} (ho : OwnI w base B m d s.x) (hn : B = none → d = 0)
    (hr : (Value.slice B m d).ownBlock = none ∨ (Value.slice B m d).ownBlock ≠ row) : EditsO w base row (xs ++ [.int .i64 s.f, .int .i64 s.t, .slice B m d]) (e ++ [s]) := by
  obtain ⟨h1, h2⟩ := h
  refine ⟨by simp; omega, fun i hi => ?_⟩
  rw [List.length_append] at hi
  rcases Nat.lt_or_ge i e.length with hlt | hge
  · obtain ⟨B', m', d', k1, k2, k3, k4, k5, k6⟩ := h2 i hlt
    rw [gE_left hlt]
    refine ⟨B', m', d', ?_, ?_, ?_, k4, k5, k6⟩
    · rw [List.getElem?_append_left (by omega)]; exact k1
    · rw [List.getElem?_append_left (by omega)]; exact k2
    · rw [List.getElem?_append_left (by omega)]; exact k3
  · obtain rfl : i = e.length := by simp at hi; omega
    rw [gE_last]
    refine ⟨B, m, d, ?_, ?_, ?_, ho, hn, hr⟩
    · rw [List.getElem?_append_right (by omega), h1, Nat.sub_self]; rfl
    · rw [List.getElem?_append_right (by omega), h1, show e.length * 3 + 1 - e.length * 3 = 1 by omega]; rfl
    · rw [List.getElem?_append_right (by omega), h1, show e.length * 3 + 2 - e.length * 3 = 2 by omega]; rfl

theorem good_len {n : Int} : ∀ {e : List Spl} {last : Int}, good n last e → last ≤ n → (e.length : Int) ≤ n - last
  | [], last, _, h => by simp only [List.length_nil]; omega
  | s :: e, last, ⟨g1, g2, g3, g4, g5, g6⟩, h => by
    have := good_len g6 g3
    simp only [List.length_cons]; omega
theorem cells3_ext {w w' : World} {g : Nat} {u v s : Value} (he : Ext w w') (h : w.cell? ⟨g, 0, none⟩ = some u ∧ w.cell? ⟨g, 1, none⟩ = some v ∧ w.cell? ⟨g, 2, none⟩ = some s) :
    w'.cell? ⟨g, 0, none⟩ = some u ∧ w'.cell? ⟨g, 1, none⟩ = some v ∧ w'.cell? ⟨g, 2, none⟩ = some s := ⟨he.cell h.1, he.cell h.2.1, he.cell h.2.2⟩
theorem blk_cells3 {w : World} {g t : Nat} {u v s : Value} (h : Blk w g t #[u, v, s]) : w.cell? ⟨g, 0, none⟩ = some u ∧ w.cell? ⟨g, 1, none⟩ = some v ∧ w.cell? ⟨g, 2, none⟩ = some s := ⟨h.cell 0, h.cell 1, h.cell 2⟩
theorem one3 {p r : Int} {C : Option Addr} {m d : Nat} : ∀ u ∈ (#[.int .i64 p, .int .i64 r, .slice C m d] : Array Value).toList, u.oneCell' = true := by
  intro u hu
  simp at hu
  rcases hu with rfl | rfl | rfl <;> rfl
/-- 'append(own row, one new element)', in a region that draws its order. -/
theorem step_push {P : Program} {ops : Array Oper} {o : Oper} {a : Act} {K : Act → World → Prop} {Q : Exit → Act → World → Prop} {E : Prop} {w1 : World} (hgd : o.guard = none) (s x : Operand) (t : TypeId)
    (ho : o.op = .call { callee := .builtin .append, args := #[s, x], argTypes := #[t, t] })
    (w0 : World) (base e : Nat) (i : TypeInfo) (zv : Value) (z bytes : Nat) (ht : P.underlying t = some (.slice e)) (hi : P.info? e = some i) (hz : i.zero = some zv)
    (hsize : i.size = z) (hby : i.bytes = bytes) (hzs : zv.cells.size = z) (hsz : 0 < z)
    (A : Option Addr) (n c : Nat) (xs : List Value) (hs : a.eval s = .slice A n c) (hown : Own w1 base e z A n c xs)
    (us : Array Value) (hu : us.size = z) (h1 : ∀ u ∈ us.toList, u.oneCell' = true) (hx : a.eval x = .slice (some ⟨w1.heap.size, 0, none⟩) 1 1)
    (h63 : n + 1 ≤ maxLen) (hbytes : (n + 1) * bytes ≤ 140737488355328) (he : Ext w0 w1) (hb : w0.heap.size ≤ base) (hbase : base ≤ w1.heap.size)
    (h : ∀ A' c' w', Own w' base e z A' (n + 1) c' (xs ++ us.toList) → w1.grownBy w' (Value.slice A n c).ownBlock → ((Value.slice A' (n + 1) c').ownBlock = (Value.slice A n c).ownBlock ∨ ∃ g, w1.heap.size ≤ g ∧ (Value.slice A' (n + 1) c').ownBlock = some g) → Ext w0 w' →
      K (a.put o.dst (.slice A' (n + 1) c')) w') : if Region.wanted o (yielded ops a.tmps) = true then Oper.wp P o a (w1.alloc (.cells us e)) K Q else E := by
  have hw : Region.wanted o (yielded ops a.tmps) = true := by simp [Region.wanted, hgd]
  rw [if_pos hw]
  have key : wpList P #[] Q [o] a (w1.alloc (.cells us e)) = wpList P #[] Q [o] a (w1.alloc (.cells us e)) := rfl
  clear key
  have hr : Rd (w1.alloc (.cells us e)) z (some ⟨w1.heap.size, 0, none⟩) 1 1 us.toList := by
    refine ⟨by simpa using hu, Nat.le_refl _, by unfold maxLen; omega, fun _ => ⟨_, rfl, fun j u hj => ?_⟩⟩
    have e1 : (⟨w1.heap.size, 0, none⟩ : Addr).add j = ⟨w1.heap.size, j, none⟩ := by simp [Addr.add_lit]
    rw [e1, (Blk.new w1 e us).cell j]
    simpa using hj
  have hc : ∀ j u, us.toList[j]? = some u → (w1.alloc (.cells us e)).cell? ((⟨w1.heap.size, 0, none⟩ : Addr).add j) = some u := by
    obtain ⟨ad', e1, hc⟩ := hr.at_ (k := 0) (by omega)
    injection e1 with e1
    subst e1
    exact hc
  have hown' := hown.ext (Ext.alloc w1 (.cells us e))
  obtain ⟨v', w', hrun, h2, h3, _, h5⟩ := run_append_own_at (P := P) (w1.alloc (.cells us e)) base t o.type e i zv z bytes ht hi hz hsize hby hzs hsz (.slice A n c) n xs hown' ⟨w1.heap.size, 0, none⟩ 1 1 us.toList hr.len hc h1 h63 hbytes (Nat.le_trans hbase (Ext.alloc w1 (.cells us e)).hsize)
  have hv : ∃ A' c', v' = .slice A' (n + 1) c' := by
    rcases h2.2 with ⟨rfl, h0'⟩ | ⟨g, cap, cur, rfl, _⟩
    · exact ⟨none, 0, by rw [h0']⟩
    · exact ⟨_, _, rfl⟩
  obtain ⟨A', c', rfl⟩ := hv
  unfold Oper.wp execOp
  simp only [ho, resolve, invoke, builtin, Sem.run_bind, Sem.run_pure, Result.andThen_ok, List.map_toArray, List.map_cons, List.map_nil, hs, hx, hrun]
  refine h A' c' w' h2 ⟨h3.os, h3.tape, h3.output, Nat.le_trans (Ext.alloc _ _).hsize h3.size, fun k hk hne => (h3.block k (Nat.lt_of_lt_of_le hk (Ext.alloc _ _).hsize) hne).trans (Below.heap_alloc _ _ _ hk)⟩ ?_ (Ext.grown (he.to_alloc _) h3 hown' hb)
  rcases h5 with k3 | k3
  · exact .inl k3
  · exact .inr ⟨_, (Ext.alloc _ _).hsize, k3⟩

end Go.Proofs.Ytmhgndjmcignjaa
