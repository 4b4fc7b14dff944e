/-
  The closure by which the machine's hits are ordered; cmp.Or of two.
-/
import Derived.Test.YtdkjkcegchohfaaAbP
import Derived.Test.YtdkjkcegchohfaaAbQ
import Derived.Test.YtdkjkcegchohfaaTriC
import Derived.Test.YtdkjkcegchohfaaPush
import Derived.Shelf.RegionOpen
import Derived.Deep.RegionHeld3
namespace Go.Proofs.Ytdkjkcegchohfaa
open Go.RowKit Go.Shelf
set_option linter.unusedVariables false
set_option linter.unusedSimpArgs false
attribute [local go_sem] Oper.semAt_some

def orA (x y : Int) : Int := if x ≠ 0 then x else y
set_option maxHeartbeats 1000000 in
theorem orA_ok {g c : Nat} {x y : Int} {w : World} (h0 : w.cell? ⟨g, 0, none⟩ = some (.int .i64 x)) (h1 : w.cell? ⟨g, 1, none⟩ = some (.int .i64 y)) :
    Calls Try.prog 41 #[.slice (some ⟨g, 0, none⟩) 2 c] w fun e w' => e = .returned (.int .i64 (orA x y)) ∧ w' = w := by
  go_enter Try.func41, Try.ntmps41
  go_wp2_with fail
  go_loopw [8] (fun i wr => ∃ k : Nat, k ≤ 2 ∧ i = .int .i64 k ∧ Hid (1 ≤ k → x = 0) ∧ Hid (2 ≤ k → y = 0) ∧ wr = w) (fun i _ => 3 - (intOf i).toNat)
  case atStart => exact ⟨0, by omega, rfl, Lib.hid (fun h => absurd h (by omega)), Lib.hid (fun h => absurd h (by omega)), rfl⟩
  case round =>
    obtain ⟨k, hk, rfl, H1, H2, rfl⟩ := hrel
    rcases (show k = 0 ∨ k = 1 ∨ k = 2 by omega) with rfl | rfl | rfl
    · by_cases hx : x = 0
      · subst hx
        go_wp2_with fail
        go_roundw
        case rel => exact ⟨1, by omega, by go_num, Lib.hid (fun _ => by trivial), Lib.hid (fun h => absurd h (by omega)), by trivial⟩
        case measure => simp [intOf]
      · have hv : Hid (orA x y = x) := Lib.hid (if_pos hx)
        have hb : (x == 0) = false := by simp [hx]
        go_wp2_with fail
        go_ret
        exact ⟨ret_int hv.out.symm, rfl⟩
    · by_cases hy : y = 0
      · subst hy
        go_wp2_with fail
        go_roundw
        case rel => exact ⟨2, by omega, by go_num, Lib.hid (fun _ => H1.out (by omega)), Lib.hid (fun _ => by trivial), by trivial⟩
        case measure => simp [intOf]
      · have hv : Hid (orA x y = y) := Lib.hid (if_neg (fun h => h (H1.out (by omega))))
        have hb : (y == 0) = false := by simp [hy]
        go_wp2_with fail
        go_ret
        exact ⟨ret_int hv.out.symm, rfl⟩
    · have hv : Hid (orA x y = 0) := Lib.hid (by unfold orA; rw [H1.out (by omega), H2.out (by omega)]; rfl)
      go_wp2_with fail
      go_ret
      exact ⟨ret_int hv.out.symm, rfl⟩
open Go.Lib in
theorem cmpA_ok (x y : Int) (w : World) : Calls Try.prog 42 #[.int .i64 x, .int .i64 y] w fun e w' => e = .returned (.int .i64 (Lib.compareInt x y)) ∧ w' = w :=
  AnyG.cmp_Compare_int cmpT x y w
/-- Larger words first, then by number. -/
def ordA (sz : List Int) (i k : Nat) : Int := orA (Lib.compareInt (gI sz k) (gI sz i)) (Lib.compareInt i k)

set_option maxRecDepth 20000 in
set_option maxHeartbeats 1000000 in
theorem abCmp_ok {W : World} {b0 K g i k : Nat} {t : AC} {sz : List Int} {x : AbA} (hg : W.cell? ⟨g, 0, none⟩ = some (.pointer (some ⟨x.g, 0, none⟩))) (h : AbIs W b0 K t sz x) (hi : i < sz.length) (hk : k < sz.length) (hs : sz.length ≤ 1000) :
    Calls Try.prog 40 #[.int .i64 i, .int .i64 k, .pointer (some ⟨g, 0, none⟩)] W fun e w' => e = .returned (.int .i64 (ordA sz i k)) ∧ Ext W w' := by
  have hln := h.siz.ints.len
  have hin : i < x.Sn := by omega
  have hkn : k < x.Sn := by omega
  obtain ⟨ad, hA, hcc⟩ := h.siz.ints.at_ (k := k) (by omega)
  have hc1 := h.c1
  rw [hA] at hc1
  have HS : Hid (W.drew.cell? ⟨g, 0, none⟩ = some (.pointer (some ⟨x.g, 0, none⟩)) ∧ W.drew.cell? ⟨x.g, 1, none⟩ = some (.slice (some ad) x.Sn x.Sc) ∧ W.drew.cell? (ad.add k) = some (.int .i64 (gI sz k)) ∧ W.drew.cell? (ad.add i) = some (.int .i64 (gI sz i))) := Lib.hid ⟨hg, hc1, hcc k (by omega), hcc i (by omega)⟩
  obtain ⟨c1, hq1⟩ : ∃ c1, c1 = Lib.compareInt (gI sz k) (gI sz i) := ⟨_, rfl⟩
  obtain ⟨c2, hq2⟩ : ∃ c2, c2 = Lib.compareInt i k := ⟨_, rfl⟩
  have HC1 := Lib.hid hq1
  have HC2 := Lib.hid hq2
  have HS2 : Hid ((W.alloc (.cells #[.int .i64 c1, .int .i64 c2] 3)).drew.cell? ⟨g, 0, none⟩ = some (.pointer (some ⟨x.g, 0, none⟩)) ∧ (W.alloc (.cells #[.int .i64 c1, .int .i64 c2] 3)).drew.cell? ⟨x.g, 1, none⟩ = some (.slice (some ad) x.Sn x.Sc) ∧ (W.alloc (.cells #[.int .i64 c1, .int .i64 c2] 3)).drew.cell? (ad.add k) = some (.int .i64 (gI sz k)) ∧ (W.alloc (.cells #[.int .i64 c1, .int .i64 c2] 3)).drew.cell? (ad.add i) = some (.int .i64 (gI sz i))) := Lib.hid ⟨(Ext.alloc W _).cell HS.out.1, (Ext.alloc W _).cell HS.out.2.1, (Ext.alloc W _).cell HS.out.2.2.1, (Ext.alloc W _).cell HS.out.2.2.2⟩
  have HB2 : Hid ((W.alloc (.cells #[.int .i64 c1, .int .i64 c2] 3)).drew.cell? ⟨W.drew.heap.size, 0, none⟩ = some (.int .i64 c1) ∧ (W.alloc (.cells #[.int .i64 c1, .int .i64 c2] 3)).drew.cell? ⟨W.drew.heap.size, 1, none⟩ = some (.int .i64 c2)) := Lib.hid ⟨(Blk.new W 3 #[.int .i64 c1, .int .i64 c2]).cell 0, (Blk.new W 3 #[.int .i64 c1, .int .i64 c2]).cell 1⟩
  clear hq1 hq2 h hg hc1 hcc hln hA
  go_enter Try.func40, Try.ntmps40
  go_wp2_with fail
  refine wp_region_held_drew (S := fun w' => w'.cell? ⟨g, 0, none⟩ = some (.pointer (some ⟨x.g, 0, none⟩)) ∧ w'.cell? ⟨x.g, 1, none⟩ = some (.slice (some ad) x.Sn x.Sc) ∧ w'.cell? (ad.add k) = some (.int .i64 (gI sz k)) ∧ w'.cell? (ad.add i) = some (.int .i64 (gI sz i))) (by kernel_rfl) HS.out (fun hHeld => ?_)
  refine wpAnyH_take (i := 0) (v := (.pointer (some ⟨x.g, 0, none⟩))) rfl (by kernel_rfl) (by kernel_rfl) (by kernel_rfl) (fun _ _ _ h => h) (Or.inl ⟨by rfl, by (intro w hSw; obtain ⟨q1, q2, q3, q4⟩ := hSw; go_simp)⟩) hHeld ?_
  try simp only [List.getElem_toArray, List.getElem_cons_zero, List.getElem_cons_succ, Act.put, List.setIfInBounds_toArray, List.set_cons_zero, List.set_cons_succ]
  refine wpAnyH_take (i := 1) (v := (.pointer (some ⟨x.g, 0, none⟩))) rfl (by kernel_rfl) (by kernel_rfl) (by kernel_rfl) (fun _ _ _ h => h) (Or.inl ⟨by rfl, by (intro w hSw; obtain ⟨q1, q2, q3, q4⟩ := hSw; go_simp)⟩) hHeld ?_
  try simp only [List.getElem_toArray, List.getElem_cons_zero, List.getElem_cons_succ, Act.put, List.setIfInBounds_toArray, List.set_cons_zero, List.set_cons_succ]
  refine wpAnyH_take (i := 2) (v := (.pointer (some ⟨x.g, 1, none⟩))) rfl (by kernel_rfl) (by kernel_rfl) (by kernel_rfl) (fun _ _ _ h => h) (Or.inl ⟨by rfl, by (intro w hSw; obtain ⟨q1, q2, q3, q4⟩ := hSw; go_simp)⟩) hHeld ?_
  try simp only [List.getElem_toArray, List.getElem_cons_zero, List.getElem_cons_succ, Act.put, List.setIfInBounds_toArray, List.set_cons_zero, List.set_cons_succ]
  refine wpAnyH_take (i := 3) (v := (.slice (some ad) x.Sn x.Sc)) rfl (by kernel_rfl) (by kernel_rfl) (by kernel_rfl) (fun _ _ _ h => h) (Or.inl ⟨by rfl, by (intro w hSw; obtain ⟨q1, q2, q3, q4⟩ := hSw; go_simp)⟩) hHeld ?_
  try simp only [List.getElem_toArray, List.getElem_cons_zero, List.getElem_cons_succ, Act.put, List.setIfInBounds_toArray, List.set_cons_zero, List.set_cons_succ]
  refine wpAnyH_take (i := 4) (v := (.int .i64 k)) rfl (by kernel_rfl) (by kernel_rfl) (by kernel_rfl) (fun _ _ _ h => h) (Or.inl ⟨by rfl, by (intro w hSw; obtain ⟨q1, q2, q3, q4⟩ := hSw; go_simp)⟩) hHeld ?_
  try simp only [List.getElem_toArray, List.getElem_cons_zero, List.getElem_cons_succ, Act.put, List.setIfInBounds_toArray, List.set_cons_zero, List.set_cons_succ]
  refine wpAnyH_take (i := 5) (v := (.pointer (some (ad.add k)))) rfl (by kernel_rfl) (by kernel_rfl) (by kernel_rfl) (fun _ _ _ h => h) (Or.inl ⟨by rfl, by (intro w hSw; obtain ⟨q1, q2, q3, q4⟩ := hSw; go_simp)⟩) hHeld ?_
  try simp only [List.getElem_toArray, List.getElem_cons_zero, List.getElem_cons_succ, Act.put, List.setIfInBounds_toArray, List.set_cons_zero, List.set_cons_succ]
  refine wpAnyH_take (i := 6) (v := (.int .i64 (gI sz k))) rfl (by kernel_rfl) (by kernel_rfl) (by kernel_rfl) (fun _ _ _ h => h) (Or.inl ⟨by rfl, by (intro w hSw; obtain ⟨q1, q2, q3, q4⟩ := hSw; go_simp)⟩) hHeld ?_
  try simp only [List.getElem_toArray, List.getElem_cons_zero, List.getElem_cons_succ, Act.put, List.setIfInBounds_toArray, List.set_cons_zero, List.set_cons_succ]
  refine wpAnyH_take (i := 7) (v := (.pointer (some ⟨x.g, 0, none⟩))) rfl (by kernel_rfl) (by kernel_rfl) (by kernel_rfl) (fun _ _ _ h => h) (Or.inl ⟨by rfl, by (intro w hSw; obtain ⟨q1, q2, q3, q4⟩ := hSw; go_simp)⟩) hHeld ?_
  try simp only [List.getElem_toArray, List.getElem_cons_zero, List.getElem_cons_succ, Act.put, List.setIfInBounds_toArray, List.set_cons_zero, List.set_cons_succ]
  refine wpAnyH_take (i := 8) (v := (.pointer (some ⟨x.g, 0, none⟩))) rfl (by kernel_rfl) (by kernel_rfl) (by kernel_rfl) (fun _ _ _ h => h) (Or.inl ⟨by rfl, by (intro w hSw; obtain ⟨q1, q2, q3, q4⟩ := hSw; go_simp)⟩) hHeld ?_
  try simp only [List.getElem_toArray, List.getElem_cons_zero, List.getElem_cons_succ, Act.put, List.setIfInBounds_toArray, List.set_cons_zero, List.set_cons_succ]
  refine wpAnyH_take (i := 9) (v := (.pointer (some ⟨x.g, 1, none⟩))) rfl (by kernel_rfl) (by kernel_rfl) (by kernel_rfl) (fun _ _ _ h => h) (Or.inl ⟨by rfl, by (intro w hSw; obtain ⟨q1, q2, q3, q4⟩ := hSw; go_simp)⟩) hHeld ?_
  try simp only [List.getElem_toArray, List.getElem_cons_zero, List.getElem_cons_succ, Act.put, List.setIfInBounds_toArray, List.set_cons_zero, List.set_cons_succ]
  refine wpAnyH_take (i := 10) (v := (.slice (some ad) x.Sn x.Sc)) rfl (by kernel_rfl) (by kernel_rfl) (by kernel_rfl) (fun _ _ _ h => h) (Or.inl ⟨by rfl, by (intro w hSw; obtain ⟨q1, q2, q3, q4⟩ := hSw; go_simp)⟩) hHeld ?_
  try simp only [List.getElem_toArray, List.getElem_cons_zero, List.getElem_cons_succ, Act.put, List.setIfInBounds_toArray, List.set_cons_zero, List.set_cons_succ]
  refine wpAnyH_take (i := 11) (v := (.int .i64 i)) rfl (by kernel_rfl) (by kernel_rfl) (by kernel_rfl) (fun _ _ _ h => h) (Or.inl ⟨by rfl, by (intro w hSw; obtain ⟨q1, q2, q3, q4⟩ := hSw; go_simp)⟩) hHeld ?_
  try simp only [List.getElem_toArray, List.getElem_cons_zero, List.getElem_cons_succ, Act.put, List.setIfInBounds_toArray, List.set_cons_zero, List.set_cons_succ]
  refine wpAnyH_take (i := 12) (v := (.pointer (some (ad.add i)))) rfl (by kernel_rfl) (by kernel_rfl) (by kernel_rfl) (fun _ _ _ h => h) (Or.inl ⟨by rfl, by (intro w hSw; obtain ⟨q1, q2, q3, q4⟩ := hSw; go_simp)⟩) hHeld ?_
  try simp only [List.getElem_toArray, List.getElem_cons_zero, List.getElem_cons_succ, Act.put, List.setIfInBounds_toArray, List.set_cons_zero, List.set_cons_succ]
  refine wpAnyH_take (i := 13) (v := (.int .i64 (gI sz i))) rfl (by kernel_rfl) (by kernel_rfl) (by kernel_rfl) (fun _ _ _ h => h) (Or.inl ⟨by rfl, by (intro w hSw; obtain ⟨q1, q2, q3, q4⟩ := hSw; go_simp)⟩) hHeld ?_
  try simp only [List.getElem_toArray, List.getElem_cons_zero, List.getElem_cons_succ, Act.put, List.setIfInBounds_toArray, List.set_cons_zero, List.set_cons_succ]
  refine wpAnyH_take (i := 15) (v := (.int .i64 i)) rfl (by kernel_rfl) (by kernel_rfl) (by kernel_rfl) (fun _ _ _ h => h) (Or.inl ⟨by rfl, by (intro w hSw; obtain ⟨q1, q2, q3, q4⟩ := hSw; go_simp)⟩) hHeld ?_
  try simp only [List.getElem_toArray, List.getElem_cons_zero, List.getElem_cons_succ, Act.put, List.setIfInBounds_toArray, List.set_cons_zero, List.set_cons_succ]
  refine wpAnyH_take (i := 16) (v := (.int .i64 k)) rfl (by kernel_rfl) (by kernel_rfl) (by kernel_rfl) (fun _ _ _ h => h) (Or.inl ⟨by rfl, by (intro w hSw; obtain ⟨q1, q2, q3, q4⟩ := hSw; go_simp)⟩) hHeld ?_
  try simp only [List.getElem_toArray, List.getElem_cons_zero, List.getElem_cons_succ, Act.put, List.setIfInBounds_toArray, List.set_cons_zero, List.set_cons_succ]
  refine wpAnyH_ready (rs := [14]) (by kernel_rfl) (by simp) ?_
  refine AllReadyH.cons rfl (fun K hK => ?_) AllReadyH.nil
  refine step_callf rfl 42 #[.int .i64 (gI sz k), .int .i64 (gI sz i)] rfl (by kernel_rfl) (fun v w' => v = .int .i64 c1 ∧ w' = W.drew) ((cmpA_ok (gI sz k) (gI sz i) W.drew).mono fun e w' ⟨h1, h2⟩ => ⟨_, h1, by rw [HC1.out], h2⟩) ?_
  rintro v w3 ⟨rfl, rfl⟩
  refine hK.out _ _ HS.out (fun hHeld2 => ?_)
  clear hK K hHeld
  try simp only [List.getElem_toArray, List.getElem_cons_zero, List.getElem_cons_succ, Act.put, List.setIfInBounds_toArray, List.set_cons_zero, List.set_cons_succ]
  refine wpAnyH_ready (rs := [17]) (by kernel_rfl) (by simp) ?_
  refine AllReadyH.cons rfl (fun K hK => ?_) AllReadyH.nil
  refine step_callf rfl 42 #[.int .i64 i, .int .i64 k] rfl (by kernel_rfl) (fun v w' => v = .int .i64 c2 ∧ w' = W.drew) ((cmpA_ok i k W.drew).mono fun e w' ⟨h1, h2⟩ => ⟨_, h1, by rw [HC2.out], h2⟩) ?_
  rintro v w3 ⟨rfl, rfl⟩
  refine hK.out _ _ HS.out (fun hHeld3 => ?_)
  clear hK K hHeld2
  try simp only [List.getElem_toArray, List.getElem_cons_zero, List.getElem_cons_succ, Act.put, List.setIfInBounds_toArray, List.set_cons_zero, List.set_cons_succ]
  refine wpAnyH_ready (rs := [18]) (by kernel_rfl) (by simp) ?_
  refine AllReadyH.cons rfl (fun K hK => ?_) AllReadyH.nil
  go_simp
  refine hK.out _ _ HS2.out (fun hHeld4 => ?_)
  clear hK K hHeld3
  try simp only [List.getElem_toArray, List.getElem_cons_zero, List.getElem_cons_succ, Act.put, List.setIfInBounds_toArray, List.set_cons_zero, List.set_cons_succ]
  refine wpAnyH_ready (rs := [19]) (by kernel_rfl) (by simp) ?_
  refine AllReadyH.cons rfl (fun K hK => ?_) AllReadyH.nil
  refine step_callf rfl 41 #[.slice (some ⟨W.drew.heap.size, 0, none⟩) 2 2] rfl (by kernel_rfl) (fun v w' => v = .int .i64 (orA c1 c2) ∧ w' = (W.alloc (.cells #[.int .i64 c1, .int .i64 c2] 3)).drew) ((orA_ok (HB2.out.1) (HB2.out.2)).mono fun e w' ⟨h1, h2⟩ => ⟨_, h1, rfl, h2⟩) ?_
  rintro v w3 ⟨rfl, rfl⟩
  refine hK.out _ _ HS2.out (fun hHeld5 => ?_)
  clear hK K hHeld4
  try simp only [List.getElem_toArray, List.getElem_cons_zero, List.getElem_cons_succ, Act.put, List.setIfInBounds_toArray, List.set_cons_zero, List.set_cons_succ]
  refine wpAnyH_take (i := 20) (v := (.int .i64 (orA c1 c2))) rfl (by kernel_rfl) (by kernel_rfl) (by kernel_rfl) (fun _ _ _ h => h) (Or.inl ⟨by rfl, by (intro w hSw; obtain ⟨q1, q2, q3, q4⟩ := hSw; go_simp)⟩) hHeld5 ?_
  try simp only [List.getElem_toArray, List.getElem_cons_zero, List.getElem_cons_succ, Act.put, List.setIfInBounds_toArray, List.set_cons_zero, List.set_cons_succ]
  refine wpAnyH_done (by kernel_rfl) ?_ _
  go_wp2_with fail
  go_ret
  exact ⟨by unfold ordA; rw [← HC1.out, ← HC2.out]; rfl, (Ext.alloc W _).to_drew⟩
end Go.Proofs.Ytdkjkcegchohfaa
