/-
  A slice of slices that is written out.
-/
import Derived.Test.YtdkjkcegchohfaaHisM
namespace Go.Proofs.Ytdkjkcegchohfaa
open Go.RowKit
set_option linter.unusedVariables false
set_option linter.unusedSimpArgs false

/-- A list's beginning, one more. -/
theorem take_gL {ls : List (List Int)} {j : Nat} (h : j < ls.length) : ls.take j ++ [gL ls j] = ls.take (j + 1) := by
  rw [List.take_add_one]
  simp [gL, h]
theorem own_nocap {w : World} {base e z n c : Nat} {A : Option Addr} {xs : List Value} (h : Own w base e z A n c xs) : A = none → c = 0 := by
  rintro rfl
  rcases h.2 with ⟨hv, _⟩ | ⟨g', cap, cur, hv, _⟩
  · injection hv
  · injection hv with h1; cases h1
theorem LnV.more {w : World} {xs : List Value} {ls : List (List Int)} {u : Value} {l : List Int} (h : LnV w xs ls) (hu : RegSl w u l) : LnV w (xs ++ [u]) (ls ++ [l]) := by
  refine ⟨by simp [h.1], fun i hi => ?_⟩
  rw [List.length_append, List.length_singleton] at hi
  rcases Nat.lt_or_ge i ls.length with hlt | hge
  · obtain ⟨x, h1, h2⟩ := h.2 i hlt
    exact ⟨x, by rw [List.getElem?_append_left (by rw [h.1]; exact hlt)]; exact h1, by rw [gL_left hlt]; exact h2⟩
  · obtain rfl : i = ls.length := by omega
    exact ⟨u, by rw [List.getElem?_append_right (by rw [h.1]; exact Nat.le_refl _), h.1, Nat.sub_self]; rfl, by rw [gL_last]; exact hu⟩
theorem LnV.nil (w : World) : LnV w [] [] := ⟨rfl, fun i hi => absurd hi (by simp)⟩
/-- A slice of slices that is written out. -/
theorem Lns.lit {W : World} {vs : List Value} {ls : List (List Int)} {n : Nat} (h : LnV (W.alloc (.cells vs.toArray 23)) vs ls) (hn : n = vs.length) (hs : n ≤ 1000) :
    Lns (W.alloc (.cells vs.toArray 23)) (some ⟨W.heap.size, 0, none⟩) n n ls := by
  subst hn
  refine ⟨vs, ⟨by simp, Nat.le_refl _, by unfold maxLen; omega, fun _ => ⟨_, rfl, fun j u hu => ?_⟩⟩, h⟩
  have : (⟨W.heap.size, 0, none⟩ : Addr).add j = ⟨W.heap.size, j, none⟩ := by simp [Addr.add_lit]
  rw [this, (Blk.new W 23 vs.toArray).cell j]
  simpa using hu
/-- A row of the call's own as a slice of the list. -/
theorem OwnI.reg {w : World} {b n c : Nat} {A : Option Addr} {l : List Int} (h : OwnI w b A n c l) (hn : n ≤ 65536) : RegSl w (.slice A n c) l := ⟨A, n, c, rfl, h.ints, own_nocap h, by omega⟩
theorem RegSl.to {w w' : World} {v : Value} {l : List Int} (h : RegSl w v l) (he : Ext w w') : RegSl w' v l := h.ext he

end Go.Proofs.Ytdkjkcegchohfaa
