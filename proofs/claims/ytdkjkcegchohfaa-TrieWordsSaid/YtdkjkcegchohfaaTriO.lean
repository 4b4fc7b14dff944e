/-
  The characters that go on, rising: order; slices.Sort over a row of the call's own.
-/
import Derived.Test.YtdkjkcegchohfaaTriX
import Derived.Test.YtdkjkcegchohfaaTriL
import Derived.Sort.OwnSortedInts
import Derived.Deep.DeepCutAuto
import Derived.Deep.CutRange
import Derived.Deep.CutBlock
import Derived.Deep.Light
namespace Go.Proofs.Ytdkjkcegchohfaa
open Go.RowKit Go.Sort
set_option linter.unusedVariables false
set_option linter.unusedSimpArgs false
attribute [local go_sem] Oper.semAt_some

def sortI' (l : List Int) : List Int := l.mergeSort fun x y => decide (x ≤ y)
theorem sortI_perm (l : List Int) : (sortI' l).Perm l := List.mergeSort_perm _ _
theorem sortI_rises {l : List Int} (h : l.Nodup) : (sortI' l).Pairwise (· < ·) := by
  have h1 : (sortI' l).Pairwise (fun x y => decide (x ≤ y) = true) := List.pairwise_mergeSort (le := fun x y => decide (x ≤ y)) (fun a b c h1 h2 => by simp at *; omega) (fun a b => by simp; omega) l
  have h2 : (sortI' l).Nodup := (sortI_perm l).nodup_iff.2 h
  refine List.Pairwise.imp₂ (fun a b h3 h4 => ?_) h1 h2
  simp at h3
  omega
theorem sortI_ok {w : World} {base n c : Nat} {A : Option Addr} {l : List Int} (h : OwnI w base A n c l) (hs : n ≤ 100000) :
    Calls Try.prog 74 #[.slice A n c] w fun e w' => e = .returned (.tuple #[]) ∧ OwnI w' base A n c (sortI' l) ∧ w.grownBy w' (Value.slice A n c).ownBlock := by
  have hl := h.ints.len
  obtain ⟨h0, h⟩ := h
  rcases h with ⟨hv, rfl⟩ | ⟨g, cap, cur, hv, hb, hg, hn, hcap, hcur, ht⟩
  · injection hv with hA _ hc
    subst hA; subst hc
    obtain rfl : l = [] := List.eq_nil_of_length_eq_zero hl
    have hS := Any.slices_Sort_int_none (P := Try.prog) (ρ := sortI_ren) sortI none 0 w
    exact hS.mono fun e w' ⟨he, hw⟩ => ⟨he, by rw [hw]; exact ⟨by simp [sortI'], .inl ⟨rfl, rfl⟩⟩, by rw [hw]; exact World.grownBy.refl w _⟩
  · injection hv with hA _ hc
    subst hA; subst hc; subst hl
    have hS : Calls Try.prog 74 #[.slice (some ⟨g, 0, none⟩) l.length c] w fun e w' => e = .returned (.tuple #[]) ∧ ∃ n os, w' = grow (putRow (Value.int .i64) (Sort.ahead w n) g 0 (l.mergeSort fun x y => decide (x ≤ y)).toArray) os :=
      Any.slices_Sort_int sortI g 0 c l w (holds_of_blockI hg (by rw [Nat.mul_one] at ht; exact ht)) (Array.getElem?_eq_some_iff.1 hg).1 (by omega)
    refine hS.mono ?_
    rintro e w' ⟨he, n, os, rfl⟩
    exact ⟨he, ownsRow_sortedI (ts := sortI' l) (ss := l) (sortI_perm l).length_eq hb hg hn hcap hcur, grownBy_sortedI _⟩

theorem own_cellsT {w : World} {base e z n c : Nat} {A : Option Addr} {xs : List Value} (h : Own w base e z A n c xs) {g : Nat} (hg : (Value.slice A n c).ownBlock = some g) : ∃ cs t fr, w.heap[g]? = some (.cells cs t fr) := by
  rcases h.2 with ⟨hv, _⟩ | ⟨g', cap, cur, hv, _, hb, _⟩
  · rw [hv] at hg; simp [Value.ownBlock] at hg
  · rw [hv] at hg
    simp [Value.ownBlock] at hg
    subst hg
    exact ⟨_, _, _, hb⟩
theorem RangesO.iter {w : World} {b r n : Nat} {f : Int → Option Value} {left : Lit → Bool} {cnt : Nat} (h : RangesO w b r n f left cnt) : ∃ since seen c0, w.heap[r]? = some (.mapIter (some b) since seen c0) := by
  obtain ⟨D, ⟨es, clock, since, seen, c0, e1, F, hs, hD, e2, rest⟩, h2⟩ := h
  exact ⟨since, seen, c0, e2⟩
theorem RangesO.cnt_le {w : World} {b r n : Nat} {f : Int → Option Value} {left : Lit → Bool} {cnt : Nat} (h : RangesO w b r n f left cnt) : cnt ≤ n := by
  obtain ⟨D, ⟨es, clock, since, seen, c0, e1, F, hs, hD, e2, e3, e4, rest⟩, h2⟩ := h
  rw [← e4]
  refine Nat.le_trans ?_ hs
  unfold leftOf
  exact Array.size_filter_le
theorem RangesO.own {w w' : World} {b r n : Nat} {f : Int → Option Value} {left : Lit → Bool} {cnt : Nat} (h : RangesO w b r n f left cnt) {base e z k c : Nat} {A : Option Addr} {xs : List Value} (ho : Own w base e z A k c xs)
    (hg : w.grownBy w' (Value.slice A k c).ownBlock) : RangesO w' b r n f left cnt := by
  obtain ⟨since, seen, c0, hi⟩ := h.iter
  obtain ⟨es, clock, hb⟩ := h.map.block
  refine h.at (hg.block b h.map.lt fun e => ?_) (hg.block r h.lt fun e => ?_)
  · obtain ⟨cs, t, fr, hc⟩ := own_cellsT ho e.symm
    rw [hb] at hc; cases hc
  · obtain ⟨cs, t, fr, hc⟩ := own_cellsT ho e.symm
    rw [hi] at hc; cases hc
theorem RangesO.now {w : World} {b r n : Nat} {f : Int → Option Value} {left : Lit → Bool} {cnt : Nat} (h : RangesO w b r n f left cnt) : RangesO w b r n f left (w.rangeLeft b r) := by
  rw [h.left_eq]; exact h
theorem key_sameT (d k : Int) : (Lit.int .i64 d).sameKey (.int .i64 k) = decide (d = k) := by
  by_cases h : d = k
  · subst h
    rw [WideAt.sameKey_self (show WideAt.IsKeyLit (.int .i64 d) from trivial)]; simp
  · rw [Maps.sameKey_ne (fun e => h (by injection e))]; simp [h]

set_option maxRecDepth 20000 in
set_option maxHeartbeats 1000000 in
theorem order_ok {F : TF} {ns : List Int → TrN} {p : List Int} {b0 K : Nat} {w : World} (hT : TrIs w b0 K F ns) (hp : (F p).isSome) (hwf : ∀ c, (F (p ++ [c])).isSome → (Lit.int .i64 c).wf = true) (hK : K ≤ 100000) :
    Calls Try.prog 61 #[(ns p).ptr] w fun e w' => ∃ A n c O, e = .returned (.slice A n c) ∧ OwnI w' w.heap.size A n c O ∧ O.Pairwise (· < ·) ∧ (∀ x, x ∈ O ↔ (F (p ++ [x])).isSome = true) ∧ n ≤ K ∧ Ext w w' := by
  obtain ⟨v, hv⟩ := Option.isSome_iff_exists.1 hp
  have c0 := (hT.cells hv).1
  have hm0 := hT.kids p hp
  unfold MapAt at hm0
  have HWF := Lib.hid hwf
  obtain ⟨i0, hi, hz0, hz1, hz2⟩ := info_parts info_int
  unfold TrN.ptr
  clear hT hv hwf
  rcases hm : (ns p).m with _ | m
  · rw [hm] at hm0 c0
    have HNO := Lib.hid hm0
    have hrg := run_range_nilMap (P := Try.prog) w 95 3 58 Try.underlying95
    have hnx : ∀ ty, (Instr.next (.pointer (some ⟨w.heap.size, 0, none⟩)) false ty).run Try.prog (w.alloc (.mapIter none 0 #[] 0)) = _ := fun ty => run_next_nilMap w ty 0 0 #[]
    have hs := sortI_ok (OwnI.nil (w.alloc (.mapIter none 0 #[] 0)) w.heap.size) (by omega)
    clear hm0 hm hi hz0 hz1 hz2
    go_enter Try.func61, Try.ntmps61
    go_wp2_with fail
    refine wp_loop_rounds 1 ?_
    rw [rounds_succ]
    go_wp2_with fail
    refine hs.mono ?_
    rintro e w1 ⟨rfl, hO, hg⟩
    have hx : Ext w w1 := Below.grown (Ext.alloc w (.mapIter none 0 #[] 0)) hg (Ext.alloc w (.mapIter none 0 #[] 0)).hsize (fun j hj => by cases hj)
    clear hs hrg hnx hg
    go_wp2_with fail
    go_ret
    refine ⟨none, 0, 0, _, rfl, hO, by simp [sortI'], fun x => ?_, by omega, hx⟩
    rw [HNO.out x]
    simp [sortI']
  · rw [hm] at hm0 c0
    obtain ⟨hbm, m1⟩ := hm0
    clear hm
    go_enter Try.func61, Try.ntmps61
    go_wp2_with (at_range; refine wpList_range_o _ rfl _ _ _ rfl Try.underlying95 rfl m1 ?_; intro w3 left0 R3 hleft0 hg3 hs3)
    go_frame
    have HL0 := Lib.hid hleft0
    have hC0 := R3.cnt_le
    clear hleft0
    go_loopw [3] (fun ov wr => ∃ A n c O left, ov = .slice A n c ∧ OwnI wr w.heap.size A n c O ∧ Hid (O.Nodup ∧ ∀ x, x ∈ O ↔ (F (p ++ [x])).isSome = true ∧ left (.int .i64 x) = false) ∧ RangesO wr m w.heap.size K (kidV F ns p) left (wr.rangeLeft m w.heap.size) ∧ n + wr.rangeLeft m w.heap.size ≤ K ∧ Ext w wr) (fun _ wr => wr.rangeLeft m w.heap.size)
    case atStart =>
      refine ⟨none, 0, 0, [], left0, rfl, OwnI.nil _ _, Lib.hid ⟨List.nodup_nil, fun x => ?_⟩, R3, by omega, Below.grown (Ext.refl w) hg3 (Nat.le_refl _) (fun j hj => by cases hj)⟩
      constructor
      · intro h; simp at h
      · rintro ⟨h1, h2⟩
        rw [HL0.out x (HWF.out x h1)] at h2
        unfold kidV at h2
        rw [if_pos h1] at h2
        cases h2
    case round =>
      obtain ⟨A, n, c, O, left, rfl, kO, kH, kR, kN, kE⟩ := hrel
      go_upto_region 5 with (at_next; refine wpList_next_o _ rfl _ rfl rfl kR ?_ ?_; intro hz0' hl0; rotate_left; intro x v w5 cnt5 hwx hlx hfx hR5 hlt5 hg5 hs5 hen; rotate_left)
      · have hs := sortI_ok kO (by omega)
        have hmem : Hid (∀ x, x ∈ O ↔ (F (p ++ [x])).isSome = true) := Lib.hid (fun x => by rw [kH.out.2 x]; exact ⟨fun h => h.1, fun h => ⟨h, hl0 _⟩⟩)
        clear kR hl0 hz0'
        try go_wp2_with fail
        refine hs.mono ?_
        rintro e w6 ⟨rfl, hO6, hg6⟩
        have hx6 : Ext w w6 := Ext.grown kE hg6 kO (Nat.le_refl _)
        clear hs
        go_wp2_with fail
        go_ret
        exact ⟨A, n, c, _, rfl, hO6, sortI_rises kH.out.1, fun x => by rw [(sortI_perm O).mem_iff]; exact hmem.out x, by omega, hx6⟩
      · have hne : (Value.slice A n c).ownBlock = none ∨ (Value.slice A n c).ownBlock ≠ some w.heap.size := by
          refine .inr (fun e => ?_)
          obtain ⟨cs, ty, fr, hc⟩ := own_cellsT kO e
          obtain ⟨a1, a2, a3, hc'⟩ := kR.iter
          rw [hc] at hc'; cases hc'
        have hO5 : OwnI w5 w.heap.size A n c O := Own.kept kO hg5 hne
        have kE5 : Ext w w5 := Below.grown kE hg5 kE.hsize (fun j hj => by injection hj with hj; omega)
        have hFx : Hid ((F (p ++ [x])).isSome = true) := Lib.hid (by
          unfold kidV at hfx
          by_cases h : (F (p ++ [x])).isSome = true
          · exact h
          · rw [if_neg h] at hfx; cases hfx)
        have HLX := Lib.hid hlx
        clear hfx hlx hs5
        go_wp2_with (at_builtin; refine wpList_push rfl (.tmp 14) (.tmp 16) 23 rfl w w.heap.size 3 i0 (.int .i64 0) 1 8 Try.underlying23 hi hz0 hz1 hz2 rfl (by decide) A n c _ rfl hO5 #[.int .i64 x] rfl (by simp [Value.oneCell']) rfl (by unfold maxLen; omega) (by omega) kE5 (Nat.le_refl _) kE5.hsize ?_; intro A' c' w6 k1 k2 k3 k4)
        have hO6 : OwnI w6 w.heap.size A' (n + 1) c' (O ++ [x]) := by unfold OwnI; rw [List.map_append]; exact k1
        have hR6 := hR5.own hO5 k2
        have hleft : w6.rangeLeft m w.heap.size < wr.rangeLeft m w.heap.size := by rw [hR6.left_eq]; exact hlt5
        clear k1 k2 k3 hO5 hR5
        go_wp2_with fail
        go_roundw
        case rel =>
          refine ⟨A', n + 1, c', O ++ [x], _, rfl, hO6, Lib.hid ⟨?_, fun y => ?_⟩, hR6.now, by omega, k4⟩
          · rw [List.nodup_append]
            refine ⟨kH.out.1, by simp, fun a ha b hb e => ?_⟩
            simp at hb
            subst hb
            subst e
            have := ((kH.out.2 a).1 ha).2
            rw [HLX.out] at this
            cases this
          · rw [List.mem_append, kH.out.2 y, List.mem_singleton, key_sameT]
            by_cases e : y = x
            · subst e; simp [hFx.out]
            · simp [e]
        case measure => exact hleft
end Go.Proofs.Ytdkjkcegchohfaa
