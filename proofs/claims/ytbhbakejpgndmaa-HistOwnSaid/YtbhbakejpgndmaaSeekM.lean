/-
  Borders of lists, in plain Lean: the longest proper border of each beginning, and what one round of the search for it does.
-/
import Derived.Test.YtbhbakejpgndmaaBase
namespace Go.Proofs.Ytbhbakejpgndmaa

/-- k is the length of a border of the first m numbers of l. -/
def bor (l : List Int) (m k : Nat) : Prop := k < m ∧ ∀ j, j < k → gI l j = gI l (m - k + j)
instance (l : List Int) (m k : Nat) : Decidable (bor l m k) := by unfold bor; exact inferInstance

theorem bor_zero {l : List Int} {m : Nat} (h : 0 < m) : bor l m 0 := ⟨h, fun _ h => absurd h (by omega)⟩

def bestB (l : List Int) (m : Nat) : Nat → Nat
  | 0 => 0
  | k + 1 => if bor l m (k + 1) then k + 1 else bestB l m k
/-- The longest border of the first m numbers. -/
def bl (l : List Int) (m : Nat) : Nat := bestB l m (m - 1)

theorem bestB_le (l : List Int) (m k : Nat) : bestB l m k ≤ k := by
  induction k with
  | zero => simp [bestB]
  | succ k ih => unfold bestB; split <;> omega
theorem bestB_bor {l : List Int} {m : Nat} (hm : 0 < m) (k : Nat) : bor l m (bestB l m k) := by
  induction k with
  | zero => exact bor_zero hm
  | succ k ih => unfold bestB; split <;> assumption
theorem bestB_max {l : List Int} {m : Nat} (k : Nat) {j : Nat} (hj : bor l m j) (hk : j ≤ k) : j ≤ bestB l m k := by
  induction k with
  | zero => simp [bestB]; omega
  | succ k ih =>
    unfold bestB
    split
    · exact hk
    · rename_i hn
      rcases Nat.lt_or_ge k j with h | h
      · obtain rfl : j = k + 1 := by omega
        exact absurd hj hn
      · exact ih h
theorem bl_bor {l : List Int} {m : Nat} (hm : 0 < m) : bor l m (bl l m) := bestB_bor hm _
theorem bl_max {l : List Int} {m j : Nat} (hj : bor l m j) : j ≤ bl l m := bestB_max _ hj (by have := hj.1; omega)
theorem bl_lt {l : List Int} {m : Nat} (hm : 0 < m) : bl l m < m := (bl_bor hm).1
theorem bl_eq {l : List Int} {m k : Nat} (hk : bor l m k) (hmax : ∀ j, bor l m j → j ≤ k) : bl l m = k :=
  Nat.le_antisymm (hmax _ (bl_bor (by have := hk.1; omega))) (bl_max hk)

theorem bor_trans {l : List Int} {i k j : Nat} (h : bor l i k) (h' : bor l k j) : bor l i j := by
  refine ⟨by have := h.1; have := h'.1; omega, fun t ht => ?_⟩
  have h1 := h'.1
  have h2 := h.1
  rw [h'.2 t ht, h.2 (k - j + t) (by omega)]
  congr 1
  omega
theorem bor_of_two {l : List Int} {i k j : Nat} (h : bor l i k) (h' : bor l i j) (hlt : j < k) : bor l k j := by
  refine ⟨hlt, fun t ht => ?_⟩
  have h2 := h.1
  rw [h'.2 t ht, h.2 (k - j + t) (by omega)]
  congr 1
  omega
theorem bor_pred {l : List Int} {i k : Nat} (h : bor l (i + 1) (k + 1)) : bor l i k ∧ gI l k = gI l i := by
  refine ⟨⟨by have := h.1; omega, fun t ht => ?_⟩, ?_⟩
  · rw [h.2 t (by omega)]; congr 1; omega
  · have := h.1
    rw [h.2 k (by omega)]; congr 1; omega
theorem bor_succ {l : List Int} {i k : Nat} (h : bor l i k) (he : gI l k = gI l i) : bor l (i + 1) (k + 1) := by
  refine ⟨by have := h.1; omega, fun t ht => ?_⟩
  have := h.1
  rcases Nat.lt_or_ge t k with h1 | h1
  · rw [h.2 t h1]; congr 1; omega
  · obtain rfl : t = k := by omega
    rw [he]; congr 1; omega

/-- What the inner loop keeps: k is a border of the first i, and no longer one can go on. -/
def canB (l : List Int) (i k : Nat) : Prop := bor l i k ∧ ∀ j, bor l (i + 1) (j + 1) → j ≤ k
theorem canB_start {l : List Int} {i : Nat} (hi : 0 < i) : canB l i (bl l i) := ⟨bl_bor hi, fun _ h => bl_max (bor_pred h).1⟩
theorem canB_step {l : List Int} {i k : Nat} (h : canB l i k) (hk : 0 < k) (hne : gI l k ≠ gI l i) : canB l i (bl l k) := by
  refine ⟨bor_trans h.1 (bl_bor hk), fun j hj => ?_⟩
  have h1 := h.2 j hj
  obtain ⟨h2, h3⟩ := bor_pred hj
  have : j ≠ k := fun e => hne (by rw [← e]; exact h3)
  exact bl_max (bor_of_two h.1 h2 (by omega))
theorem canB_hit {l : List Int} {i k : Nat} (h : canB l i k) (he : gI l k = gI l i) : bl l (i + 1) = k + 1 :=
  bl_eq (bor_succ h.1 he) fun j hj => by
    rcases j with _ | j
    · omega
    · have := h.2 j hj; omega
theorem canB_miss {l : List Int} {i : Nat} (h : canB l i 0) (hne : gI l 0 ≠ gI l i) : bl l (i + 1) = 0 :=
  bl_eq (bor_zero (by omega)) fun j hj => by
    rcases j with _ | j
    · omega
    · have := h.2 j hj
      obtain rfl : j = 0 := by omega
      exact absurd (bor_pred hj).2 hne

/-- All longest borders, as the program lists them. -/
def blist (l : List Int) : List Int := (List.range l.length).map fun i => (bl l (i + 1) : Int)
/-- The row behind i rounds. -/
def brow (l : List Int) (i : Nat) : List Int := (List.range l.length).map fun j => if j < i then (bl l (j + 1) : Int) else 0
theorem brow_len (l : List Int) (i : Nat) : (brow l i).length = l.length := by simp [brow]
theorem bl_one (l : List Int) : bl l 1 = 0 := by have := @bl_lt l 1 (by omega); omega
theorem brow_start (l : List Int) : brow l 1 = List.replicate l.length 0 := by
  apply List.ext_getElem
  · simp [brow]
  · intro j h1 h2
    simp [brow]
    intro h
    obtain rfl : j = 0 := by omega
    simp [bl_one]
theorem brow_end (l : List Int) {i : Nat} (h : l.length ≤ i) : brow l i = blist l := by
  apply List.ext_getElem
  · simp [brow, blist]
  · intro j h1 h2
    simp [brow, blist] at h1 ⊢
    omega
theorem brow_set (l : List Int) {i : Nat} : (brow l i).set i (bl l (i + 1)) = brow l (i + 1) := by
  apply List.ext_getElem
  · simp [brow]
  · intro j h1 h2
    rw [List.getElem_set]
    simp [brow]
    split
    · rename_i e; subst e; simp
    · rename_i hne; by_cases hj : j < i
      · rw [if_pos hj, if_pos (by omega)]
      · rw [if_neg hj, if_neg (by omega)]
theorem brow_get (l : List Int) {i k : Nat} (h : k < i) (hi : i ≤ l.length) (hk : 0 < k) : gI (brow l i) (k - 1) = (bl l k : Int) := by
  have : k - 1 < l.length := by omega
  simp [gI, brow, this]
  rw [if_pos (by omega), show k - 1 + 1 = k by omega]
theorem blist_get (l : List Int) {k : Nat} (hi : k ≤ l.length) (hk : 0 < k) : gI (blist l) (k - 1) = (bl l k : Int) := by
  have : k - 1 < l.length := by omega
  simp [gI, blist, this]
  rw [show k - 1 + 1 = k by omega]
theorem brow_cell (l : List Int) {i j : Nat} (h : j < l.length) : ((brow l i).map (Value.int .i64)).toArray[j]? = some (.int .i64 (gI (brow l i) j)) := by
  have : j < (brow l i).length := by rw [brow_len]; exact h
  simp [gI, this]
theorem brow_store {w : World} {g j : Nat} {t : TypeId} {l : List Int} {u : Int} (h : Blk w g t ((brow l j).map (Value.int .i64)).toArray) (hu : u = (bl l (j + 1) : Int)) :
    Blk (w.setCell ⟨g, j, none⟩ (.int .i64 u)) g t ((brow l (j + 1)).map (Value.int .i64)).toArray := by
  have := h.set_ j (.int .i64 u)
  rw [← brow_set, ← hu, List.map_set, ← List.setIfInBounds_toArray]
  exact this
theorem blist_len (l : List Int) : (blist l).length = l.length := by simp [blist]

end Go.Proofs.Ytbhbakejpgndmaa
