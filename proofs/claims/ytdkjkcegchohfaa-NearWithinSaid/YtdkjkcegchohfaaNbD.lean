/-
  The closure by which near words are ordered.
-/
import Derived.Test.YtdkjkcegchohfaaNbC
import Derived.Test.YtdkjkcegchohfaaPush
import Derived.Test.YtdkjkcegchohfaaNbW
import Derived.Shelf.RegionOpen
import Derived.Deep.RegionHeld3
namespace Go.Proofs.Ytdkjkcegchohfaa
open Go.RowKit Go.Shelf Go.Lib Go.Sort
set_option linter.unusedVariables false
set_option linter.unusedSimpArgs false
attribute [local go_sem] Oper.semAt_some

theorem cmp_ok (x y : Int) (w : World) : Calls Try.prog 42 #[.int .i64 x, .int .i64 y] w fun e w' => e = .returned (.int .i64 (Lib.compareInt x y)) ∧ w' = w :=
  AnyG.cmp_Compare_int cmpN x y w

set_option maxRecDepth 20000 in
set_option maxHeartbeats 1000000 in
theorem near_cmp (x y : Nat × Nat) (W : World) : Calls Try.prog 49 #[.agg (encN x).toArray, .agg (encN y).toArray] W fun e w' => e = .returned (.int .i64 (cmpF x y)) ∧ ∃ q os', w' = grow (W.drewN q) os' := by
  unfold encN
  go_enter Try.func49, Try.ntmps49
  go_wp2_with fail
  obtain ⟨WA, hWA⟩ : ∃ WA, WA = ((W.alloc (.cells #[.int .i64 x.1, .int .i64 x.2] 53)).alloc (.cells #[.int .i64 y.1, .int .i64 y.2] 53)) := ⟨_, rfl⟩
  rw [← hWA]
  have HSA : Hid (WA.cell? ⟨W.heap.size, 0, none⟩ = some (.int .i64 x.1) ∧ WA.cell? ⟨W.heap.size, 1, none⟩ = some (.int .i64 x.2) ∧ WA.cell? ⟨(W.heap.size + 1), 0, none⟩ = some (.int .i64 y.1) ∧ WA.cell? ⟨(W.heap.size + 1), 1, none⟩ = some (.int .i64 y.2)) := Lib.hid (by
    have b1 : Blk (W.alloc (.cells #[.int .i64 x.1, .int .i64 x.2] 53)) W.heap.size 53 #[.int .i64 x.1, .int .i64 x.2] := Blk.new _ _ _
    have b2 : Blk WA (W.heap.size + 1) 53 #[.int .i64 y.1, .int .i64 y.2] := by
      have := Blk.new (W.alloc (.cells #[.int .i64 x.1, .int .i64 x.2] 53)) 53 #[.int .i64 y.1, .int .i64 y.2]
      rw [← hWA] at this
      simpa using this
    have b3 : Blk WA W.heap.size 53 #[.int .i64 x.1, .int .i64 x.2] := by rw [hWA]; exact b1.ext (Ext.alloc _ _)
    exact ⟨by rw [b3.cell 0]; rfl, by rw [b3.cell 1]; rfl, by rw [b2.cell 0]; rfl, by rw [b2.cell 1]; rfl⟩)
  have HWA := Lib.hid hWA
  have hsz : WA.heap.size = W.heap.size + 2 := by rw [hWA]; simp
  clear hWA
  have HS : Hid (WA.drew.cell? ⟨W.heap.size, 0, none⟩ = some (.int .i64 x.1) ∧ WA.drew.cell? ⟨W.heap.size, 1, none⟩ = some (.int .i64 x.2) ∧ WA.drew.cell? ⟨(W.heap.size + 1), 0, none⟩ = some (.int .i64 y.1) ∧ WA.drew.cell? ⟨(W.heap.size + 1), 1, none⟩ = some (.int .i64 y.2)) := Lib.hid HSA.out
  obtain ⟨c1, hc1⟩ : ∃ c1, c1 = Lib.compareInt x.2 y.2 := ⟨_, rfl⟩
  obtain ⟨c2, hc2⟩ : ∃ c2, c2 = Lib.compareInt x.1 y.1 := ⟨_, rfl⟩
  have HC1 := Lib.hid hc1
  have HC2 := Lib.hid hc2
  have HS2 : Hid ((WA.alloc (.cells #[.int .i64 c1, .int .i64 c2] 3)).drew.cell? ⟨W.heap.size, 0, none⟩ = some (.int .i64 x.1) ∧ (WA.alloc (.cells #[.int .i64 c1, .int .i64 c2] 3)).drew.cell? ⟨W.heap.size, 1, none⟩ = some (.int .i64 x.2) ∧ (WA.alloc (.cells #[.int .i64 c1, .int .i64 c2] 3)).drew.cell? ⟨(W.heap.size + 1), 0, none⟩ = some (.int .i64 y.1) ∧ (WA.alloc (.cells #[.int .i64 c1, .int .i64 c2] 3)).drew.cell? ⟨(W.heap.size + 1), 1, none⟩ = some (.int .i64 y.2)) := Lib.hid ⟨(Ext.alloc WA _).cell HS.out.1, (Ext.alloc WA _).cell HS.out.2.1, (Ext.alloc WA _).cell HS.out.2.2.1, (Ext.alloc WA _).cell HS.out.2.2.2⟩
  have HB2 : Hid ((WA.alloc (.cells #[.int .i64 c1, .int .i64 c2] 3)).drew.cell? ⟨WA.drew.heap.size, 0, none⟩ = some (.int .i64 c1) ∧ (WA.alloc (.cells #[.int .i64 c1, .int .i64 c2] 3)).drew.cell? ⟨WA.drew.heap.size, 1, none⟩ = some (.int .i64 c2)) := Lib.hid ⟨(Blk.new WA 3 #[.int .i64 c1, .int .i64 c2]).cell 0, (Blk.new WA 3 #[.int .i64 c1, .int .i64 c2]).cell 1⟩
  clear hc1 hc2 hsz
  refine wp_region_held_drew (S := fun w' => w'.cell? ⟨W.heap.size, 0, none⟩ = some (.int .i64 x.1) ∧ w'.cell? ⟨W.heap.size, 1, none⟩ = some (.int .i64 x.2) ∧ w'.cell? ⟨(W.heap.size + 1), 0, none⟩ = some (.int .i64 y.1) ∧ w'.cell? ⟨(W.heap.size + 1), 1, none⟩ = some (.int .i64 y.2)) (by kernel_rfl) HSA.out (fun hHeld => ?_)
  refine wpAnyH_take (i := 0) (v := (.pointer (some ⟨W.heap.size, 1, none⟩))) rfl (by kernel_rfl) (by kernel_rfl) (by kernel_rfl) (fun _ _ _ h => h) (Or.inl ⟨by rfl, by (intro w hSw; obtain ⟨q1, q2, q3, q4⟩ := hSw; go_simp)⟩) hHeld ?_
  try simp only [List.getElem_toArray, List.getElem_cons_zero, List.getElem_cons_succ, Act.put, List.setIfInBounds_toArray, List.set_cons_zero, List.set_cons_succ]
  refine wpAnyH_take (i := 1) (v := (.int .i64 x.2)) rfl (by kernel_rfl) (by kernel_rfl) (by kernel_rfl) (fun _ _ _ h => h) (Or.inl ⟨by rfl, by (intro w hSw; obtain ⟨q1, q2, q3, q4⟩ := hSw; go_simp)⟩) hHeld ?_
  try simp only [List.getElem_toArray, List.getElem_cons_zero, List.getElem_cons_succ, Act.put, List.setIfInBounds_toArray, List.set_cons_zero, List.set_cons_succ]
  refine wpAnyH_take (i := 2) (v := (.pointer (some ⟨(W.heap.size + 1), 1, none⟩))) rfl (by kernel_rfl) (by kernel_rfl) (by kernel_rfl) (fun _ _ _ h => h) (Or.inl ⟨by rfl, by (intro w hSw; obtain ⟨q1, q2, q3, q4⟩ := hSw; go_simp)⟩) hHeld ?_
  try simp only [List.getElem_toArray, List.getElem_cons_zero, List.getElem_cons_succ, Act.put, List.setIfInBounds_toArray, List.set_cons_zero, List.set_cons_succ]
  refine wpAnyH_take (i := 3) (v := (.int .i64 y.2)) rfl (by kernel_rfl) (by kernel_rfl) (by kernel_rfl) (fun _ _ _ h => h) (Or.inl ⟨by rfl, by (intro w hSw; obtain ⟨q1, q2, q3, q4⟩ := hSw; go_simp)⟩) hHeld ?_
  try simp only [List.getElem_toArray, List.getElem_cons_zero, List.getElem_cons_succ, Act.put, List.setIfInBounds_toArray, List.set_cons_zero, List.set_cons_succ]
  refine wpAnyH_take (i := 5) (v := (.pointer (some ⟨W.heap.size, 0, none⟩))) rfl (by kernel_rfl) (by kernel_rfl) (by kernel_rfl) (fun _ _ _ h => h) (Or.inl ⟨by rfl, by (intro w hSw; obtain ⟨q1, q2, q3, q4⟩ := hSw; go_simp)⟩) hHeld ?_
  try simp only [List.getElem_toArray, List.getElem_cons_zero, List.getElem_cons_succ, Act.put, List.setIfInBounds_toArray, List.set_cons_zero, List.set_cons_succ]
  refine wpAnyH_take (i := 6) (v := (.int .i64 x.1)) rfl (by kernel_rfl) (by kernel_rfl) (by kernel_rfl) (fun _ _ _ h => h) (Or.inl ⟨by rfl, by (intro w hSw; obtain ⟨q1, q2, q3, q4⟩ := hSw; go_simp)⟩) hHeld ?_
  try simp only [List.getElem_toArray, List.getElem_cons_zero, List.getElem_cons_succ, Act.put, List.setIfInBounds_toArray, List.set_cons_zero, List.set_cons_succ]
  refine wpAnyH_take (i := 7) (v := (.pointer (some ⟨(W.heap.size + 1), 0, none⟩))) rfl (by kernel_rfl) (by kernel_rfl) (by kernel_rfl) (fun _ _ _ h => h) (Or.inl ⟨by rfl, by (intro w hSw; obtain ⟨q1, q2, q3, q4⟩ := hSw; go_simp)⟩) hHeld ?_
  try simp only [List.getElem_toArray, List.getElem_cons_zero, List.getElem_cons_succ, Act.put, List.setIfInBounds_toArray, List.set_cons_zero, List.set_cons_succ]
  refine wpAnyH_take (i := 8) (v := (.int .i64 y.1)) rfl (by kernel_rfl) (by kernel_rfl) (by kernel_rfl) (fun _ _ _ h => h) (Or.inl ⟨by rfl, by (intro w hSw; obtain ⟨q1, q2, q3, q4⟩ := hSw; go_simp)⟩) hHeld ?_
  try simp only [List.getElem_toArray, List.getElem_cons_zero, List.getElem_cons_succ, Act.put, List.setIfInBounds_toArray, List.set_cons_zero, List.set_cons_succ]
  refine wpAnyH_ready (rs := [4]) (by kernel_rfl) (by simp) ?_
  refine AllReadyH.cons rfl (fun K hK => ?_) AllReadyH.nil
  refine step_callf rfl 42 #[.int .i64 x.2, .int .i64 y.2] rfl (by kernel_rfl) (fun v w' => v = .int .i64 c1 ∧ w' = WA.drew) ((cmp_ok x.2 y.2 WA.drew).mono fun e w' ⟨h1, h2⟩ => ⟨_, h1, by rw [HC1.out], h2⟩) ?_
  rintro v w3 ⟨rfl, rfl⟩
  refine hK.out _ _ HS.out (fun hHeld2 => ?_)
  clear hK K hHeld
  try simp only [List.getElem_toArray, List.getElem_cons_zero, List.getElem_cons_succ, Act.put, List.setIfInBounds_toArray, List.set_cons_zero, List.set_cons_succ]
  refine wpAnyH_ready (rs := [9]) (by kernel_rfl) (by simp) ?_
  refine AllReadyH.cons rfl (fun K hK => ?_) AllReadyH.nil
  refine step_callf rfl 42 #[.int .i64 x.1, .int .i64 y.1] rfl (by kernel_rfl) (fun v w' => v = .int .i64 c2 ∧ w' = WA.drew) ((cmp_ok x.1 y.1 WA.drew).mono fun e w' ⟨h1, h2⟩ => ⟨_, h1, by rw [HC2.out], h2⟩) ?_
  rintro v w3 ⟨rfl, rfl⟩
  refine hK.out _ _ HS.out (fun hHeld3 => ?_)
  clear hK K hHeld2
  try simp only [List.getElem_toArray, List.getElem_cons_zero, List.getElem_cons_succ, Act.put, List.setIfInBounds_toArray, List.set_cons_zero, List.set_cons_succ]
  refine wpAnyH_ready (rs := [10]) (by kernel_rfl) (by simp) ?_
  refine AllReadyH.cons rfl (fun K hK => ?_) AllReadyH.nil
  go_simp
  refine hK.out _ _ HS2.out (fun hHeld4 => ?_)
  clear hK K hHeld3
  try simp only [List.getElem_toArray, List.getElem_cons_zero, List.getElem_cons_succ, Act.put, List.setIfInBounds_toArray, List.set_cons_zero, List.set_cons_succ]
  refine wpAnyH_ready (rs := [11]) (by kernel_rfl) (by simp) ?_
  refine AllReadyH.cons rfl (fun K hK => ?_) AllReadyH.nil
  refine step_callf rfl 41 #[.slice (some ⟨WA.drew.heap.size, 0, none⟩) 2 2] rfl (by kernel_rfl) (fun v w' => v = .int .i64 (orF c1 c2) ∧ w' = (WA.alloc (.cells #[.int .i64 c1, .int .i64 c2] 3)).drew) ((or_ok (HB2.out.1) (HB2.out.2)).mono fun e w' ⟨h1, h2⟩ => ⟨_, h1, rfl, h2⟩) ?_
  rintro v w3 ⟨rfl, rfl⟩
  refine hK.out _ _ HS2.out (fun hHeld5 => ?_)
  clear hK K hHeld4
  try simp only [List.getElem_toArray, List.getElem_cons_zero, List.getElem_cons_succ, Act.put, List.setIfInBounds_toArray, List.set_cons_zero, List.set_cons_succ]
  refine wpAnyH_take (i := 12) (v := (.int .i64 (orF c1 c2))) rfl (by kernel_rfl) (by kernel_rfl) (by kernel_rfl) (fun _ _ _ h => h) (Or.inl ⟨by rfl, by (intro w hSw; obtain ⟨q1, q2, q3, q4⟩ := hSw; go_simp)⟩) hHeld5 ?_
  try simp only [List.getElem_toArray, List.getElem_cons_zero, List.getElem_cons_succ, Act.put, List.setIfInBounds_toArray, List.set_cons_zero, List.set_cons_succ]
  refine wpAnyH_done (by kernel_rfl) ?_ _
  go_wp2_with fail
  go_ret
  refine ⟨by unfold cmpF; rw [← HC1.out, ← HC2.out]; rfl, 1, #[.cells #[.int .i64 x.1, .int .i64 x.2] 53, .cells #[.int .i64 y.1, .int .i64 y.2] 53, .cells #[.int .i64 c1, .int .i64 c2] 3], ?_⟩
  rw [HWA.out]
  simp only [alloc_eq_grow, drew_grow, grow_grow]
  rfl
end Go.Proofs.Ytdkjkcegchohfaa
