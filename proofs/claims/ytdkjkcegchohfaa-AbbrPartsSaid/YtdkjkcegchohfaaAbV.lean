/-
  A queue: a slice of numbers whose beginning moves; what is put behind it.
-/
import Derived.Test.YtdkjkcegchohfaaAbP
import Derived.Deep.AppendSrc
namespace Go.Proofs.Ytdkjkcegchohfaa
open Go.RowKit
set_option linter.unusedVariables false
set_option linter.unusedSimpArgs false

def QRow (w : World) (b : Nat) (A : Option Addr) (n c : Nat) (l : List Int) : Prop :=
  l.length = n ∧ n ≤ c ∧ c ≤ maxLen ∧ (c = 0 ∨ ∃ g off cur, A = some ⟨g, off, none⟩ ∧ b ≤ g ∧ w.heap[g]? = some (.cells cur 3 (0, 0)) ∧ off + c ≤ cur.size ∧ ∀ j, j < n → cur[off + j]? = some (.int .i64 (gI l j)))
section
variable {w w' : World} {b n c : Nat} {A : Option Addr} {l : List Int} {N : List Nat}
theorem QRow.lit (w : World) (v : Int) (hb : b ≤ w.heap.size) : QRow (w.alloc (.cells #[.int .i64 v] 3)) b (some ⟨w.heap.size, 0, none⟩) 1 1 [v] :=
  ⟨rfl, Nat.le_refl _, by unfold maxLen; omega, .inr ⟨_, 0, _, rfl, hb, heap_alloc_new w _, by simp, fun j hj => by
    obtain rfl : j = 0 := by omega
    rfl⟩⟩
theorem QRow.eqv (h : QRow w b A n c l) (he : Eqv N w w') (hN : ∀ k, k ∈ N → k < b ∨ tyB w k ≠ 3 + 1) : QRow w' b A n c l := by
  obtain ⟨h1, h2, h3, h4⟩ := h
  refine ⟨h1, h2, h3, h4.imp id ?_⟩
  rintro ⟨g, off, cur, rfl, hb, hg, hr⟩
  refine ⟨g, off, cur, rfl, hb, ?_, hr⟩
  rw [he.2 g (Array.getElem?_eq_some_iff.1 hg).1 (fun hm => ?_)]
  · exact hg
  · rcases hN g hm with e | e
    · omega
    · apply e; unfold tyB; rw [hg]
theorem QRow.ext (h : QRow w b A n c l) (he : Ext w w') : QRow w' b A n c l := h.eqv (he.eqv []) (fun k hk => by simp at hk)
theorem QRow.head {v : Int} {l' : List Int} (h : QRow w b A n c (v :: l')) : ∃ g off, A = some ⟨g, off, none⟩ ∧ w.cell? ⟨g, off, none⟩ = some (.int .i64 v) := by
  obtain ⟨h1, h2, h3, h4⟩ := h
  simp at h1
  rcases h4 with h4 | ⟨g, off, cur, rfl, hb, hg, hs, hr⟩
  · omega
  · refine ⟨g, off, rfl, ?_⟩
    rw [cell_of_row w g off cur _ (0, 0) hg]
    have := hr 0 (by omega)
    simpa [gI] using this
theorem QRow.tail {v : Int} {l' : List Int} {g off : Nat} (h : QRow w b (some ⟨g, off, none⟩) n c (v :: l')) : QRow w b (if c = 1 then some ⟨g, off, none⟩ else some ⟨g, off + 1, none⟩) (n - 1) (c - 1) l' := by
  obtain ⟨h1, h2, h3, h4⟩ := h
  simp at h1
  refine ⟨by omega, by omega, by omega, ?_⟩
  by_cases e : c = 1
  · left; omega
  · right
    rw [if_neg e]
    rcases h4 with h4 | ⟨g', off', cur, hA, hb, hg, hs, hr⟩
    · omega
    · injection hA with hA
      injection hA with e1 e2 _
      subst e1; subst e2
      refine ⟨g, off + 1, cur, rfl, hb, hg, by omega, fun j hj => ?_⟩
      have := hr (j + 1) (by omega)
      rw [show off + 1 + j = off + (j + 1) by omega, this]
      simp [gI]
theorem gI_snoc_lt {l : List Int} {v : Int} {j : Nat} (h : j < l.length) : gI (l ++ [v]) j = gI l j := by
  unfold gI; simp [List.getElem?_append_left h]
theorem gI_snoc_at {l : List Int} {v : Int} : gI (l ++ [v]) l.length = v := by
  unfold gI; simp
/-- What a number more makes of the world. -/
theorem QRow.push {P : Program} {i : TypeInfo} {t ty : TypeId} (ht : P.underlying t = some (.slice 3)) (hi : P.info? 3 = some i) (hz : i.zero = some (.int .i64 0)) (hs : i.size = 1) (hby : i.bytes = 8)
    (h : QRow w b A n c l) (hb : b ≤ w.heap.size) (hn : n ≤ 100000) (v : Int) :
    ∃ A' c' w', (Builtin.append_ #[t, t] ty #[.slice A n c, .slice (some ⟨w.heap.size, 0, none⟩) 1 1]).run P (w.alloc (.cells #[.int .i64 v] 3)) = .ok (.slice A' (n + 1) c') w' ∧ QRow w' b A' (n + 1) c' (l ++ [v]) ∧
      ∃ q, Eqv [q] w w' ∧ b ≤ q ∧ (tyB w q = 3 + 1 ∨ w.heap.size ≤ q) ∧ w'.os = w.os ∧ w'.tape = w.tape ∧ w'.output = w.output := by
  obtain ⟨h1, h2, h3, h4⟩ := h
  have hW := Ext.alloc w (.cells #[.int .i64 v] 3)
  have hsrc : Src P i.size t (.slice (some ⟨w.heap.size, 0, none⟩) 1 1) 1 [.int .i64 v] (w.alloc (.cells #[.int .i64 v] 3)) := by
    refine Src.ofSlice _ ht _ 1 1 _ (by simp [hs]) (fun j u hj => ?_) (fun u hu => by simp at hu; subst hu; rfl)
    have e1 : (⟨w.heap.size, 0, none⟩ : Addr).add j = ⟨w.heap.size, j, none⟩ := by simp [Addr.add_lit]
    rw [e1, (Blk.new w 3 #[.int .i64 v]).cell j]
    simpa using hj
  by_cases hroom : n + 1 ≤ c
  · rcases h4 with h4 | ⟨g, off, cur, rfl, hbg, hg, hsz, hr⟩
    · omega
    · have hgl := (Array.getElem?_eq_some_iff.1 hg).1
      have hg2 : (w.alloc (.cells #[.int .i64 v] 3)).heap[g]? = some (.cells cur 3 (0, 0)) := (Below.block hW g hgl).trans hg
      have hrun := run_append_room_src (P := P) (w := w.alloc (.cells #[.int .i64 v] 3)) t t ty 3 i ht hi g off n c _ 1 [.int .i64 v] hsrc hroom (fun j hj => by
        simp at hj; subst hj
        rw [hs, cell_of_row _ g _ cur _ (0, 0) hg2]
        simp; omega) (fun j hj => frozen_of_row _ g _ cur _ hg2)
      rw [hs, Nat.mul_one] at hrun
      refine ⟨_, _, _, hrun, ⟨by simp [h1], hroom, h3, .inr ⟨g, off, cur.setIfInBounds (off + n) (.int .i64 v), rfl, hbg, heap_setCell_same _ g (off + n) cur _ _ hg2, by simpa using hsz, fun j hj => ?_⟩⟩, g, ?_, hbg, .inl (by unfold tyB; rw [hg]), rfl, rfl, rfl⟩
      · by_cases e : j = n
        · subst e
          rw [Array.getElem?_setIfInBounds_self_of_lt (by omega), ← h1, gI_snoc_at]
        · rw [Array.getElem?_setIfInBounds_ne (by omega), hr j (by omega), gI_snoc_lt (by omega)]
      · exact (hW.eqv _).trans (Eqv.setCell (N := [g]) _ _ _ (by simp))
  · have hold : (Builtin.firstCells i.size n (.slice A n c)).run P (w.alloc (.cells #[.int .i64 v] 3)).drew = .ok (l.map (Value.int .i64)).toArray (w.alloc (.cells #[.int .i64 v] 3)).drew := by
      rcases h4 with h4 | ⟨g, off, cur, rfl, hbg, hg, hsz, hr⟩
      · obtain rfl : n = 0 := by omega
        obtain rfl : l = [] := List.eq_nil_of_length_eq_zero h1
        cases A with
        | none => exact run_firstCells_none _ _ _ _ _
        | some ad => exact run_firstCells_some _ _ 0 ad 0 c [] (by simp) (fun j u hj => by simp at hj)
      · have hgl := (Array.getElem?_eq_some_iff.1 hg).1
        have hg2 : (w.alloc (.cells #[.int .i64 v] 3)).drew.heap[g]? = some (.cells cur 3 (0, 0)) := (Below.block hW g hgl).trans hg
        refine run_firstCells_some _ _ n ⟨g, off, none⟩ n c _ (by simp [h1, hs]) (fun j u hj => ?_)
        have hjn : j < n := by
          have := (List.getElem?_eq_some_iff.1 hj).1
          simpa [h1] using this
        have e1 : (⟨g, off, none⟩ : Addr).add j = ⟨g, off + j, none⟩ := by simp [Addr.add_lit]
        rw [e1, cell_of_row _ g _ cur _ (0, 0) hg2, hr j hjn]
        rw [← hj]
        unfold gI
        have : j < l.length := by omega
        simp [this]
    have hge := grownCap_ge (w.alloc (.cells #[.int .i64 v] 3)) (n + 1) c 3
    have hcm := grownCap_le_maxLen (w.alloc (.cells #[.int .i64 v] 3)) (n + 1) c 3 (by unfold maxLen; omega)
    have hrun := run_append_grow_src (P := P) (w := w.alloc (.cells #[.int .i64 v] 3)) t t ty 3 i _ ht hi hz A n c _ hold _ 1 [.int .i64 v] hsrc (by omega) (by omega) (by rw [hby]; have := nextslicecap_le (need := n + 1) (old := c) (by omega); omega)
    refine ⟨_, _, _, hrun, ⟨by simp [h1], hge, hcm, .inr ⟨_, 0, _, rfl, ?_, heap_alloc_new _ _, ?_, fun j hj => ?_⟩⟩, w.heap.size, ?_, hb, .inr (Nat.le_refl _), rfl, rfl, rfl⟩
    · simp; omega
    · simp only [Nat.zero_add, Array.size_append, List.size_toArray, size_zeroCells, List.length_append, List.length_map, h1, List.length_singleton]
      simp [Value.cells]; omega
    · rw [Nat.zero_add, Array.getElem?_append_left (by simp [h1]; omega)]
      simp only [List.getElem?_toArray]
      by_cases e : j = n
      · subst e
        rw [List.getElem?_append_right (by simp [h1])]
        simp [h1]
        rw [← h1, gI_snoc_at]
      · rw [List.getElem?_append_left (by simp [h1]; omega), gI_snoc_lt (by omega)]
        have : j < l.length := by omega
        unfold gI; simp [this]
    · refine ⟨?_, fun k hk hn => ?_⟩
      · simp; omega
      · rw [Below.heap_alloc _ _ _ (by simp; omega)]
        exact Below.block hW k hk
/-- .. at the append of a walk. -/
theorem wpList_queue {P : Program} {ops : Array Oper} {rest : List Oper} {o : Oper} {a : Act} {Q : Exit → Act → World → Prop} (hgd : o.guard = none) (s x : Operand) (t : TypeId)
    (ho : o.op = .call { callee := .builtin .append, args := #[s, x], argTypes := #[t, t] }) {i : TypeInfo} (ht : P.underlying t = some (.slice 3)) (hi : P.info? 3 = some i) (hz : i.zero = some (.int .i64 0)) (hs : i.size = 1) (hby : i.bytes = 8)
    (hv : a.eval s = .slice A n c) (h : QRow w b A n c l) (hb : b ≤ w.heap.size) (hn : n ≤ 100000) (v : Int) (hx : a.eval x = .slice (some ⟨w.heap.size, 0, none⟩) 1 1)
    (hK : ∀ A' c' w' q, QRow w' b A' (n + 1) c' (l ++ [v]) → Eqv [q] w w' → b ≤ q → (tyB w q = 3 + 1 ∨ w.heap.size ≤ q) → w'.os = w.os → w'.tape = w.tape → w'.output = w.output → wpList P ops Q rest (a.put o.dst (.slice A' (n + 1) c')) w') :
    wpList P ops Q (o :: rest) a (w.alloc (.cells #[.int .i64 v] 3)) := by
  refine wpList_plain hgd fun K hK' => ?_
  obtain ⟨A', c', w', hrun, h1, q, h2, h3, h4, h5, h6, h7⟩ := QRow.push (ty := o.type) ht hi hz hs hby h hb hn v
  unfold Oper.wp
  simp [execOp, ho, resolve, invoke, builtin, hv, hx, hrun, Result.andThen]
  exact hK' _ _ (hK A' c' w' q h1 h2 h3 h4 h5 h6 h7)
end
end Go.Proofs.Ytdkjkcegchohfaa
