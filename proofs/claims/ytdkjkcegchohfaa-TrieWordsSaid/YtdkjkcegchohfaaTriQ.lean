/-
  More: the walk.
-/
import Derived.Test.YtdkjkcegchohfaaTriN
import Derived.Test.YtdkjkcegchohfaaTriF
namespace Go.Proofs.Ytdkjkcegchohfaa
open Go.RowKit
set_option linter.unusedVariables false
set_option linter.unusedSimpArgs false
attribute [local go_sem] Oper.semAt_some

def sizeV : Value → Nat
  | .slice _ n _ => n
  | _ => 0
theorem FS_some {S : List (List Int)} {q : List Int} {v : Bool × Nat} (h : FS S q = some v) : v = (decide (q ∈ S), cntF S q) := by
  unfold FS at h
  split at h
  · injection h with h; rw [← h]; rfl
  · cases h
theorem cnt_none {S : List (List Int)} {q : List Int} (h : ¬ (FS S q).isSome = true) : cntF S q = 0 := by
  unfold cntF
  rw [List.countP_eq_zero]
  intro x hx
  simp only [decide_eq_true_eq]
  intro hp
  apply h
  unfold FS
  rw [if_pos (.inr ⟨x, hx, hp⟩)]
  rfl

set_option maxRecDepth 20000 in
set_option maxHeartbeats 2000000 in
theorem tmore_ok {S : List (List Int)} {b0 K n c : Nat} {ns : List Int → TrN} {A : Option Addr} {q : List Int} {w : World} (hS : ∀ x ∈ S, x.length ≤ 24) (hwf : ∀ x ∈ S, ∀ y ∈ x, (Lit.int .i64 y).wf = true) (hT : TrIs w b0 K (FS S) ns)
    (hq : Ints w A n c q) (hwq : ∀ y ∈ q, (Lit.int .i64 y).wf = true) :
    Calls Try.prog 27 #[(ns []).ptr, .slice A n c] w fun e w' => Ext w w' ∧ ((cntF S q = 0 ∧ e = .returned (.tuple #[.slice none 0 0, .int .i64 6])) ∨
      (cntF S q ≠ 0 ∧ ∃ B m d, e = .returned (.tuple #[.slice B m d, .int .i64 0]) ∧ ∃ x, OwnI w' w.heap.size B m d x ∧ cntF S (q ++ x) = cntF S q ∧ EndsF S (q ++ x) ∧ (FS S (q ++ x)).isSome = true)) := by
  have hat := tat_ok hT hT.root hq hwq
  rw [List.nil_append] at hat
  unfold atV TrN.ptr at hat
  have HT := Lib.hid hT
  obtain ⟨i0, hi, hz0, hz1, hz2⟩ := info_parts info_int
  have HI := Lib.hid hi
  have HWF : Hid (∀ r c, (FS S (r ++ [c])).isSome = true → (Lit.int .i64 c).wf = true) := Lib.hid (fun r c h => by
    obtain ⟨x, hx, hpx⟩ := FS_kid.1 h
    exact hwf x hx c (hpx.subset (by simp)))
  have HS := Lib.hid hS
  clear hT hq hwq hi hwf hS
  unfold TrN.ptr
  by_cases hp : (FS S q).isSome = true
  case neg =>
    rw [if_neg hp] at hat
    have h0 := Lib.hid (cnt_none hp)
    clear hp
    go_enter Try.func27, Try.ntmps27
    go_wp2_with fail
    refine hat.mono ?_
    rintro e w ⟨rfl, rfl⟩
    clear hat
    go_wp2_with fail
    go_ret2
    exact ⟨Ext.refl _, .inl ⟨h0.out, rfl⟩⟩
  case pos =>
    rw [if_pos hp] at hat
    obtain ⟨v, hv⟩ := Option.isSome_iff_exists.1 hp
    obtain ⟨c0, c1, c2, cf⟩ := HT.out.cells hv
    have hvc := FS_some hv
    subst hvc
    simp only at c1 c2
    have HP := Lib.hid hp
    clear cf c0 c1 hv hp
    by_cases hz : cntF S q = 0
    · have h0 := Lib.hid hz
      rw [hz] at c2
      clear hz
      go_enter Try.func27, Try.ntmps27
      go_wp2_with fail
      refine hat.mono ?_
      rintro e w ⟨rfl, rfl⟩
      clear hat
      go_wp2_with fail
      go_ret2
      exact ⟨Ext.refl _, .inl ⟨h0.out, rfl⟩⟩
    · have h0 := Lib.hid hz
      obtain ⟨N, hN⟩ : ∃ N, N = cntF S q := ⟨_, rfl⟩
      rw [← hN] at c2 hz
      have HNN := Lib.hid hN
      have hzz : ((N : Int) == 0) = false := by simp; omega
      clear hN
      go_enter Try.func27, Try.ntmps27
      go_wp2_with fail
      refine hat.mono ?_
      rintro e w ⟨rfl, rfl⟩
      clear hat
      go_wp2_with fail
      clear hzz c2 hz
      go_loopw [6, 7] (fun tp tv wr => ∃ (x : List Int) (A2 : Option Addr) (n2 c2 : Nat), tv = .slice A2 n2 c2 ∧ tp = .pointer (some ⟨(ns (q ++ x)).a, 0, none⟩) ∧ OwnI wr w.heap.size A2 n2 c2 x ∧ Hid ((FS S (q ++ x)).isSome = true ∧ cntF S (q ++ x) = cntF S q) ∧ Ext w wr) (fun _ tv _ => 25 - sizeV tv)
      case atStart => exact ⟨[], none, 0, 0, rfl, by simp, OwnI.nil _ _, Lib.hid ⟨by simpa using HP.out, by simp⟩, Ext.refl _⟩
      case round =>
        obtain ⟨x, A2, n2, c2, rfl, rfl, hO, HR, he⟩ := hrel
        have hT2 := Lib.hid (HT.out.ext he)
        obtain ⟨r, hr⟩ : ∃ r, r = q ++ x := ⟨_, rfl⟩
        have hlen : q.length + n2 ≤ 24 := by have h1 := FS_len HS.out HR.out.1; have h2 := hO.ints.len; rw [List.length_append] at h1; omega
        rw [← hr] at HR ⊢
        have HRX := Lib.hid hr
        obtain ⟨vr, hvr⟩ := Option.isSome_iff_exists.1 HR.out.1
        obtain ⟨c0, c1, _, _⟩ := hT2.out.cells hvr
        have hvc := FS_some hvr
        subst hvc
        simp only at c1
        clear hr hvr
        by_cases hw : r ∈ S
        · have e1 : decide (r ∈ S) = true := by simp [hw]
          rw [e1] at c1
          have HEnd : Hid (EndsF S r) := Lib.hid (.inl hw)
          clear e1 hw
          go_wp2_with fail
          go_ret2
          exact ⟨he, .inr ⟨h0.out, A2, n2, c2, rfl, x, hO, by rw [← HRX.out]; exact HR.out.2, by rw [← HRX.out]; exact HEnd.out, by rw [← HRX.out]; exact HR.out.1⟩⟩
        · have e1 : decide (r ∈ S) = false := by simp [hw]
          rw [e1] at c1
          have HW := Lib.hid hw
          have hmm := hT2.out.kids r HR.out.1
          unfold MapAt at hmm
          clear e1 hw
          rcases hm : (ns r).m with _ | m
          · rw [hm] at c0 hmm
            have HEnd : Hid (EndsF S r) := Lib.hid (.inr (fun ⟨d, hd⟩ => by
              have := (hd d).2 rfl
              rw [hmm d] at this
              cases this))
            have hln : ∀ ty, (Builtin.len_ #[95] ty #[.map none]).run Try.prog wr = .ok (.int .i64 0) wr := fun ty => Maps.len_nil Try.underlying95 ty
            clear hmm hm
            go_wp2_with fail
            go_ret2
            exact ⟨he, .inr ⟨h0.out, A2, n2, c2, rfl, x, hO, by rw [← HRX.out]; exact HR.out.2, by rw [← HRX.out]; exact HEnd.out, by rw [← HRX.out]; exact HR.out.1⟩⟩
          · rw [hm] at c0 hmm
            obtain ⟨s, hs⟩ := hmm.2.sized
            have hln := fun ty => hs.len Try.underlying95 ty
            have hkv : Hid (∀ d, (kidV (FS S) ns r d).isSome = (FS S (r ++ [d])).isSome) := Lib.hid (fun d => by
              unfold kidV
              by_cases h : (FS S (r ++ [d])).isSome = true
              · rw [if_pos h, h]; rfl
              · rw [if_neg h]
                cases hh : (FS S (r ++ [d])).isSome with
                | true => exact absurd hh h
                | false => rfl)
            have HMS := Lib.hid hs
            have HM := Lib.hid hm
            clear hmm hm hs
            by_cases h1 : s = 1
            · subst h1
              have hln1 : ∀ ty, (Builtin.len_ #[95] ty #[.map (some m)]).run Try.prog wr = .ok (.int .i64 1) wr := hln
              clear hln
              go_wp2_with (at_range; refine wpList_range_s _ rfl _ _ _ rfl Try.underlying95 rfl HMS.out ?_; intro w3 left0 R3 hleft0 hg3 hs3)
              try go_frame
              have HL0 : Hid (∀ d, (FS S (r ++ [d])).isSome = true → left0 (.int .i64 d) = true) := Lib.hid (fun d h => by
                rw [hleft0 d (HWF.out r d h), hkv.out d]; exact h)
              have hE3 : Ext w w3 := Below.grown he hg3 he.hsize (fun j hj => by cases hj)
              have hO3 : OwnI w3 w.heap.size A2 n2 c2 x := Own.kept hO hg3 (by
                cases hb : (Value.slice A2 n2 c2).ownBlock with
                | none => exact .inl rfl
                | some k => exact .inr (by simp))
              have hwr : w.heap.size ≤ wr.heap.size := he.hsize
              clear hleft0 hg3 hs3 hln1 c0 c1 hO
              generalize wr = wo at *
              go_loopw [6, 7] (fun tp tv w4 => (∃ left, tp = .pointer (some ⟨(ns r).a, 0, none⟩) ∧ tv = .slice A2 n2 c2 ∧ RangesO w4 m wo.heap.size K (kidV (FS S) ns r) left 1 ∧ OwnI w4 w.heap.size A2 n2 c2 x ∧ Hid (∀ d, (FS S (r ++ [d])).isSome = true → left (.int .i64 d) = true) ∧ Ext w w4) ∨
                  (∃ left y A3 c3, tp = .pointer (some ⟨(ns (r ++ [y])).a, 0, none⟩) ∧ tv = .slice A3 (n2 + 1) c3 ∧ RangesO w4 m wo.heap.size K (kidV (FS S) ns r) left 0 ∧ OwnI w4 w.heap.size A3 (n2 + 1) c3 (x ++ [y]) ∧ Hid ((FS S (r ++ [y])).isSome = true ∧ ∀ d, (FS S (r ++ [d])).isSome = true → d ≠ y → left (.int .i64 d) = true) ∧ Ext w w4)) (fun _ _ w4 => w4.rangeLeft m wo.heap.size)
              case atStart => exact .inl ⟨left0, rfl, rfl, R3, hO3, HL0, hE3⟩
              case round =>
                clear R3 hO3 HL0 hE3
                rcases hrel with ⟨left, rfl, rfl, kR, kO, kL, kE⟩ | ⟨left, y, A3, c3, rfl, rfl, kR, kO, kL, kE⟩
                · have hne : (Value.slice A2 n2 c2).ownBlock = none ∨ (Value.slice A2 n2 c2).ownBlock ≠ some wo.heap.size := by
                    refine .inr (fun e => ?_)
                    obtain ⟨cs, ty, fr, hc⟩ := own_cellsT kO e
                    obtain ⟨a1, a2, a3, hc'⟩ := kR.iter
                    rw [hc] at hc'; cases hc'
                  go_upto_region 9 with (at_next; refine wpList_next_o _ rfl _ rfl rfl kR (fun h => absurd h (by decide)) ?_; intro y v w5 cnt5 hwy hly hfy hR5 hlt5 hg5 hs5 hen)
                  obtain rfl : cnt5 = 0 := by omega
                  have hO5 : OwnI w5 w.heap.size A2 n2 c2 x := Own.kept kO hg5 hne
                  have kE5 : Ext w w5 := Below.grown kE hg5 kE.hsize (fun j hj => by injection hj with hj; omega)
                  have hFy : (FS S (r ++ [y])).isSome = true := by rw [← hkv.out y, hfy]; rfl
                  have hvy : v = .pointer (some ⟨(ns (r ++ [y])).a, 0, none⟩) := by
                    unfold kidV at hfy
                    rw [if_pos hFy] at hfy
                    injection hfy with hfy
                    exact hfy.symm
                  subst hvy
                  have HFY := Lib.hid hFy
                  have hm1 := kR.left_eq
                  clear hfy hFy hly hs5 kR
                  go_wp2_with (at_builtin; refine wpList_push rfl (.tmp 45) (.tmp 47) 23 rfl w w.heap.size 3 i0 (.int .i64 0) 1 8 Try.underlying23 HI.out hz0 hz1 hz2 rfl (by decide) A2 n2 c2 _ rfl hO5 #[.int .i64 y] rfl (by simp [Value.oneCell']) rfl (by unfold maxLen; omega) (by omega) kE5 (Nat.le_refl _) kE5.hsize ?_; intro A' c' w6 k1 k2 k3 k4)
                  have hO6 : OwnI w6 w.heap.size A' (n2 + 1) c' (x ++ [y]) := by unfold OwnI; rw [List.map_append]; exact k1
                  have hR6 := hR5.own hO5 k2
                  clear k1 k2 k3 hO5 hR5
                  go_wp2_with fail
                  go_roundw
                  case rel =>
                    refine .inr ⟨_, y, A', c', rfl, rfl, hR6, hO6, Lib.hid ⟨HFY.out, fun d hd hne => ?_⟩, k4⟩
                    rw [key_sameT, kL.out d hd]
                    simp [hne]
                  case measure => rw [hR6.left_eq, hm1]; decide
                · go_upto_region 9 with (at_next; refine wpList_next_o _ rfl _ rfl rfl kR ?_ (fun _ _ _ _ _ _ _ _ h _ _ _ => absurd h (Nat.not_lt_zero _)); intro hz00 hl0)
                  have HU : Hid (∀ d, (FS S (r ++ [d])).isSome = true → d = y) := Lib.hid (fun d hd => by
                    by_cases e : d = y
                    · exact e
                    · have := kL.out.2 d hd e
                      rw [hl0] at this
                      cases this)
                  clear hl0 kR hz00
                  try go_wp2_with fail
                  go_roundw
                  case rel =>
                    refine ⟨x ++ [y], A3, n2 + 1, c3, by simp, by simp [HRX.out], kO, Lib.hid ⟨?_, ?_⟩⟩
                    · rw [← List.append_assoc, ← HRX.out]; exact kL.out.1
                    · rw [← List.append_assoc, ← HRX.out, more_count HW.out HU.out]; exact HR.out.2
                  case measure => simp [sizeV]; omega
            · have hs1 : ((s : Int) == 1) = false := by simp; omega
              have HEnd : Hid (EndsF S r) := Lib.hid (.inr (fun ⟨d, hd⟩ => h1 (HMS.out.one (c := d) (HWF.out r d ((hd d).2 rfl)) (fun y hy => HWF.out r y (by rw [← hkv.out y]; exact hy)) (fun y => by rw [hkv.out y]; exact hd y))))
              clear h1
              go_wp2_with fail
              go_ret2
              exact ⟨he, .inr ⟨h0.out, A2, n2, c2, rfl, x, hO, by rw [← HRX.out]; exact HR.out.2, by rw [← HRX.out]; exact HEnd.out, by rw [← HRX.out]; exact HR.out.1⟩⟩
end Go.Proofs.Ytdkjkcegchohfaa
