/-
  slices.SortFunc over a row of near words of the call's own.
-/
import Derived.Test.YtdkjkcegchohfaaNbD
import Derived.Sort.OwnSortedInts
namespace Go.Proofs.Ytdkjkcegchohfaa
open Go.RowKit Go.Shelf Go.Lib Go.Sort
set_option linter.unusedVariables false
set_option linter.unusedSimpArgs false

theorem nearC_get : ∀ (L : List (Nat × Nat)) (i c : Nat), c < 2 → (nearC L)[i * 2 + c]? = L[i]?.map fun p => (encN p)[c]!
  | [], i, c, _ => by simp [nearC]
  | p :: L, 0, c, h => by
    rcases (show c = 0 ∨ c = 1 by omega) with rfl | rfl <;> simp [nearC, encN]
  | p :: L, i + 1, c, h => by
    have e : (i + 1) * 2 + c = (i * 2 + c) + 2 := by omega
    have e2 : nearC (p :: L) = .int .i64 p.1 :: .int .i64 p.2 :: nearC L := rfl
    rw [e, e2, List.getElem?_cons_succ, List.getElem?_cons_succ, nearC_get L i c h, List.getElem?_cons_succ]
theorem flat_near (L : List (Nat × Nat)) : flatK encN 2 L.toArray = (nearC L).toArray := by
  apply Array.ext_getElem?
  intro t
  have e := nearC_get L (t / 2) (t % 2) (by omega)
  rw [show t / 2 * 2 + t % 2 = t by omega] at e
  rw [show (nearC L).toArray[t]? = (nearC L)[t]? from by simp, e]
  by_cases ht : t < L.length * 2
  · have h2 : t / 2 < L.length := by omega
    simp [flatK, ht, h2]
  · have h2 : ¬ t / 2 < L.length := by omega
    simp [flatK, ht, h2]
theorem holds_near {w : World} {g : Nat} {cur : Array Value} {e : TypeId} {L : List (Nat × Nat)} (hb : w.heap[g]? = some (.cells cur e (0, 0))) (ht : cur.toList.take (L.length * 2) = nearC L) : HoldsK encN 2 w g 0 L.toArray := by
  unfold HoldsK
  rw [flat_near]
  intro j hj
  have hj' : j < (nearC L).length := by simpa using hj
  have hj2 : j < L.length * 2 := by rw [← nearC_len]; exact hj'
  refine ⟨?_, by simp [World.frozen?, hb]⟩
  have h1 : (cur.toList.take (L.length * 2))[j]? = (nearC L)[j]? := by rw [ht]
  rw [List.getElem?_take_of_lt hj2] at h1
  simp only [World.cell?, hb, Nat.zero_add]
  simp only [Option.isSome_none, Bool.false_eq_true, if_false]
  rw [← Array.getElem?_toList, h1]
  simp [hj']
theorem heap_sortedV {w : World} {g n : Nat} {os : Array Obj} {cur : Array Value} {e : TypeId} {fr : Nat × Nat} (d : Array Value) (hb : w.heap[g]? = some (.cells cur e fr)) :
    (grow (putRow id (Sort.ahead w n) g 0 d) os).heap[g]? = some (.cells (putCells id 0 d cur) e fr) := by
  have hg : g < w.heap.size := (Array.getElem?_eq_some_iff.1 hb).1
  rw [heap_grow_old _ _ (by simpa using hg)]
  simp [putRow, mapBlock, Sort.ahead, Array.getElem?_modify, hb, onCells]
theorem grownBy_sortedV {w : World} {g n : Nat} {os : Array Obj} (d : Array Value) : w.grownBy (grow (putRow id (Sort.ahead w n) g 0 d) os) (some g) := by
  refine ⟨rfl, rfl, rfl, by simp, fun k hk hne => ?_⟩
  rw [heap_grow_old _ _ (by simpa using hk)]
  have : g ≠ k := fun e => hne (by rw [e])
  simp [putRow, mapBlock, Sort.ahead, Array.getElem?_modify, this]
theorem take_putCellsV (cur : Array Value) (ts : List Value) (h : ts.length ≤ cur.size) : (putCells id 0 ts.toArray cur).toList.take ts.length = ts := by
  apply List.ext_getElem?
  intro j
  by_cases hj : j < ts.length
  · rw [List.getElem?_take_of_lt hj, Array.getElem?_toList]
    simp [putCells, hj, show j < cur.size by omega]
  · rw [List.getElem?_take_eq_none (by omega), List.getElem?_eq_none (by omega)]

/-! The order. -/
theorem ltN (x y : Nat × Nat) : ltOf cmpF x y = decide (x.2 < y.2 ∨ (x.2 = y.2 ∧ x.1 < y.1)) := by
  unfold ltOf cmpF orF Lib.compareInt
  by_cases h1 : x.2 < y.2
  · simp [h1]
  · by_cases h2 : y.2 < x.2
    · have : ¬ x.2 = y.2 := by omega
      simp [h1, h2, this]
    · have e : x.2 = y.2 := by omega
      by_cases h3 : x.1 < y.1
      · simp [e, h3]
      · by_cases h4 : y.1 < x.1 <;> simp [e, h3, h4]
theorem swoN : SWO (ltOf cmpF) where
  irrefl x := by rw [ltN]; simp
  trans x y z h1 h2 := by rw [ltN] at *; simp at *; omega
  ntrans x y z h1 h2 := by rw [ltN] at *; simp at *; omega
theorem totN (x y : Nat × Nat) (h1 : ltOf cmpF x y = false) (h2 : ltOf cmpF y x = false) : x = y := by
  rw [ltN] at *; simp at *
  obtain ⟨a, b⟩ := x
  obtain ⟨c, d⟩ := y
  simp only at h1 h2
  rw [Prod.mk.injEq]
  omega
def sortL (L : List (Nat × Nat)) : List (Nat × Nat) := L.mergeSort fun x y => !(ltOf cmpF) y x
theorem sortL_perm (L : List (Nat × Nat)) : (sortL L).Perm L := List.mergeSort_perm _ _
theorem sortL_len (L : List (Nat × Nat)) : (sortL L).length = L.length := (sortL_perm L).length_eq
/-- Sorted: nearer first, then by number. -/
def SortedN (L : List (Nat × Nat)) : Prop := L.Pairwise fun x y => x.2 < y.2 ∨ (x.2 = y.2 ∧ x.1 ≤ y.1)
theorem sortL_sorted (L : List (Nat × Nat)) : SortedN (sortL L) := by
  have h := List.pairwise_mergeSort (le := fun x y => !(ltOf cmpF) y x) (fun a b c h1 h2 => by
    rw [ltN] at *; simp at *; omega) (fun a b => by
    rw [ltN, ltN]; simp; omega) L
  exact h.imp fun {a b} hab => by
    rw [ltN] at hab; simp at hab; omega
theorem HitsB.perm {t : BK} {q : List Int} {most : Nat} {S : Nat → Prop} {L M : List (Nat × Nat)} (h : HitsB t q most S L) (hp : M.Perm L) : HitsB t q most S M :=
  ⟨(hp.map Prod.fst).nodup_iff.2 h.1, fun x d => by rw [hp.mem_iff]; exact h.2 x d⟩

theorem isAggN (w : World) : (isAgg 53).run Try.prog w = .ok true w := by kernel_rfl
theorem sizeOfN (w : World) : (Go.sizeOf 53).run Try.prog w = .ok 2 w := by kernel_rfl
theorem sortN_ok {w : World} {base n c : Nat} {A : Option Addr} {L : List (Nat × Nat)} (h : OwnN w base A n c L) (hs : n ≤ 1000) :
    Calls Try.prog 48 #[.slice A n c, .func (.func 49) #[] #[]] w fun e w' =>
      e = .returned (.tuple #[]) ∧ OwnN w' base A n c (sortL L) ∧ w.grownBy w' (Value.slice A n c).ownBlock := by
  have hl := h.len
  obtain ⟨h0, h⟩ := h
  rcases h with ⟨hv, rfl⟩ | ⟨g, cap, cur, hv, hb, hg, hn, hcap, hcur, ht⟩
  · injection hv with hA _ hc
    subst hA; subst hc
    obtain rfl : L = [] := List.eq_nil_of_length_eq_zero hl
    have hS := AnyF.slices_SortFunc_none (P := Try.prog) (ρ := sortN_ren) { sortN with } none 0 (.func (.func 49) #[] #[]) w
    exact hS.mono fun e w' ⟨he, hw⟩ => ⟨he, by rw [hw]; exact ⟨by simp [sortL, nearC], .inl ⟨rfl, rfl⟩⟩, by rw [hw]; exact World.grownBy.refl w _⟩
  · injection hv with hA _ hc
    subst hA; subst hc; subst hl
    have eg : ∀ args w, (callFunc 49 args).run Try.prog w = .ok (.enter 49 args) w := enters_of Try.func49 (by kernel_rfl) rfl
    have hS := AnyQ.slices_SortFunc_total sortN 2 isAggN sizeOfN encN (fun _ => rfl) (fun x v hv => by simp [encN] at hv; rcases hv with rfl | rfl <;> rfl) cmpF swoN 49 #[] g 0 c L.toArray w eg
      (fun _ _ _ _ x y => near_cmp x y _) (holds_near hg ht) (Array.getElem?_eq_some_iff.1 hg).1 (by simp only [List.size_toArray]; omega) totN
    have hS2 : Calls Try.prog 48 #[.slice (some ⟨g, 0, none⟩) L.length c, .func (.func 49) #[] #[]] w fun e w' => e = .returned (.tuple #[]) ∧ ∃ n os, w' = sortWorldK encN 2 w g 0 n (L.toArray.toList.mergeSort fun x y => !ltOf cmpF y x).toArray os := hS
    refine hS2.mono ?_
    · rintro e w' ⟨he, n, os, hw⟩
      have hw' : w' = grow (putRow id (Sort.ahead w n) g 0 (nearC (sortL L)).toArray) os := by
        rw [hw, ← flat_near]; rfl
      subst hw'
      refine ⟨he, ⟨?_, .inr ⟨g, c, _, rfl, hb, heap_sortedV _ hg, hn, hcap, by simp [putCells, hcur], ?_⟩⟩, grownBy_sortedV _⟩
      · rw [nearC_len, sortL_len]
      · have := take_putCellsV cur (nearC (sortL L)) (by rw [nearC_len, sortL_len, hcur]; omega)
        rw [nearC_len, sortL_len] at this
        exact this
end Go.Proofs.Ytdkjkcegchohfaa
