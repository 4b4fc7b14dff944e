/-
  The walk of the statement on borders: the list that the program tells, followed from its end, names just the beginnings that are ends.
-/
import Derived.Test.YtgpagfbmbnlcpaaSeekB
import Derived.Test.YtgpagfbmbnlcpaaLib
import Derived.Test.YtgpagfbmbnlcpaaMaps
namespace Go.Proofs.Ytgpagfbmbnlcpaa
open Go.RowKit
set_option linter.unusedVariables false

theorem abab_eq : blist (chars ⟨#[97, 98, 97, 98]⟩) = [0, 0, 1, 2] := by decide +kernel

/-- S holds the borders that were met on the way from n down to k. -/
def metB (l : List Int) (n k : Nat) (S : List Nat) : Prop := ∀ j, 0 < j → (bor l n j ↔ j ∈ S ∨ j = k ∨ bor l k j)
def inF (S : List Nat) : Int → Int := fun x => if ∃ j ∈ S, (j : Int) = x then 1 else 0
theorem inF_nil (x : Int) : noF x = inF [] x := by simp [noF, inF]
theorem inF_cons (S : List Nat) (k : Nat) (x : Int) : updF (inF S) k 1 x = inF (k :: S) x := by
  unfold updF inF
  by_cases h : x = (k : Int)
  · subst h; simp
  · rw [if_neg h]
    have : (k : Int) ≠ x := fun e => h e.symm
    simp [this]
theorem metB_start {l : List Int} {n : Nat} (hn : 0 < n) : metB l n (bl l n) [] := by
  intro j hj
  constructor
  · intro h
    have h1 := bl_max h
    rcases Nat.lt_or_ge j (bl l n) with h2 | h2
    · exact .inr (.inr (bor_of_two (bl_bor hn) h h2))
    · exact .inr (.inl (by omega))
  · rintro (h | h | h)
    · cases h
    · subst h; exact bl_bor hn
    · exact bor_trans (bl_bor hn) h
theorem metB_step {l : List Int} {n k : Nat} {S : List Nat} (h : metB l n k S) (hk : 0 < k) : metB l n (bl l k) (k :: S) := by
  intro j hj
  rw [h j hj]
  have h0 := @metB_start l k hk j hj
  constructor
  · rintro (h1 | h1 | h1)
    · exact .inl (by simp [h1])
    · exact .inl (by simp [h1])
    · rcases h0.1 h1 with h2 | h2
      · cases h2
      · exact .inr h2
  · rintro (h1 | h1)
    · rcases List.mem_cons.1 h1 with h2 | h2
      · exact .inr (.inl h2)
      · exact .inl h2
    · exact .inr (.inr (h0.2 (.inr h1)))
theorem metB_end {l : List Int} {n : Nat} {S : List Nat} (h : metB l n 0 S) {j : Nat} (hj : 0 < j) : inF S j = if bor l n j then 1 else 0 := by
  have h1 := h j hj
  have h2 : bor l n j ↔ j ∈ S := by
    rw [h1]
    constructor
    · rintro (h | h | h)
      · exact h
      · omega
      · have := h.1; omega
    · exact .inl
  unfold inF
  by_cases hb : bor l n j
  · rw [if_pos hb, if_pos ⟨j, h2.1 hb, rfl⟩]
  · rw [if_neg hb, if_neg]
    rintro ⟨i, hi, e⟩
    obtain rfl : i = j := by omega
    exact hb (h2.2 hi)
theorem eq_bor {l : List Int} {n j : Nat} (hl : l.length = n) (hj : j < n) : eqB ((l.drop 0).take (j - 0)) ((l.drop (n - j)).take (n - (n - j))) = decide (bor l n j) := by
  have e1 : (l.drop 0).take (j - 0) = l.take j := by simp
  have e2 : (l.drop (n - j)).take (n - (n - j)) = l.drop (n - j) := List.take_of_length_le (by simp; omega)
  rw [e1, e2]
  by_cases hb : bor l n j
  · rw [decide_eq_true hb]
    refine eqB_true.2 (List.ext_getElem (by simp; omega) fun i h1 h2 => ?_)
    simp at h1 h2
    have := hb.2 i (by omega)
    simp [gI, show i < l.length by omega, show n - j + i < l.length by omega] at this
    simpa using this
  · rw [decide_eq_false hb]
    refine eqB_false.2 fun e => hb ⟨hj, fun i hi => ?_⟩
    have := congrArg (fun x : List Int => x[i]?.getD 0) e
    simpa [gI, List.getElem?_take, hi] using this

set_option maxHeartbeats 2000000 in
theorem seekBorders_walk {l : List Int} {A : Option Addr} {n c : Nat} {w : World} (hl : Ints w A n c l) :
    Calls Try.prog 3 #[.slice A n c] w fun e w' => e = .returned (.bool true) ∧ Ext w w' := by
  have hmm := @run_makeMap Try.prog
  have hcm := hl.nmax
  have hnc := hl.ncap
  unfold maxLen at hcm
  have q1 : eqB [0, 0, 1, 2] [0, 0, 1, 2] = true := by decide
  go_enter Try.func3, Try.ntmps3
  go_wp2_with fail
  refine (of_ok _ _ (by decide)).mono ?_
  rintro e w1 ⟨A1, c1, rfl, ho1, he1⟩
  go_wp2_with fail
  refine (borders_ints ho1.ints (by decide)).mono ?_
  rintro e w2 ⟨B1, rfl, hb1, he2⟩
  rw [abab_eq] at hb1
  go_wp2_with fail
  refine (equal_ext (hb1.ext (Ext.alloc _ _)) (Blk.ints (l := [0, 0, 1, 2]) (Blk.new _ _ _) rfl (by decide))).mono ?_
  rintro e w3 ⟨rfl, he3⟩
  have he : Ext w w3 := he1.trans (he2.trans ((Ext.alloc _ _).trans he3))
  clear he1 he2 he3 hb1 ho1
  go_wp2_with fail
  by_cases hn : n ≤ 4096
  · refine (borders_ints (hl.ext he) hn).mono ?_
    rintro e w4 ⟨B, rfl, hb, he4⟩
    have hee := he.trans he4
    clear he he4
    rcases Nat.eq_zero_or_pos n with h0 | h0
    · subst h0
      go_wp2_with fail
      go_ret
      exact ⟨rfl, hee⟩
    · have hn0 : ((n : Int) == 0) = false := by simp; omega
      have hlen := Lib.hid hl.len
      obtain ⟨ad, rfl, hcell⟩ := hb.at_ h0
      have c0 : (w4.alloc (.map #[] 0)).cell? (ad.add (n - 1)) = some (.int .i64 (bl l n)) := by
        rw [← blist_get l (by rw [hlen.out]; exact Nat.le_refl _) h0]; exact (Ext.alloc _ _).cell (hcell _ (by omega))
      go_wp2_with fail
      go_loopw [8] (fun k w5 => ∃ (kn cnt : Nat) (S : List Nat), k = .int .i64 kn ∧ kn < n ∧ Hid (metB l n kn S) ∧ cnt + kn < n + 1 ∧ MapI w5 w4.heap.size cnt (inF S) ∧ Ext w4 w5) (fun k _ => (intOf k).toNat)
      case atStart => exact ⟨bl l n, 0, [], rfl, bl_lt h0, metB_start h0, by have := @bl_lt l n h0; omega, (MapI.made w4).congr inF_nil, Ext.alloc _ _⟩
      case round =>
        clear c0
        obtain ⟨kn, cnt, S, rfl, hkn, hm, hcnt, hmap, he5⟩ := hrel
        by_cases hk : 0 < kn
        · have hkb := @bl_lt l kn hk
          go_wp2_with (at_mapUpdate; refine wpList_mapPut rfl (.tmp 56) (.tmp 57) (.const (.int .i64 1)) 28 rfl Try.underlying28 w4 w4.heap.size cnt _ rfl hmap ?_ kn 1 rfl rfl ?_ ?_ he5 (Nat.le_refl _) ?_)
          · unfold maxLen; omega
          · simp [Lit.wf, IntKind.min, IntKind.max, IntKind.signed, IntKind.bits]; omega
          · decide
          · intro w6 hmap6 _ he6
            have hmap7 := hmap6.congr (inF_cons S kn)
            have c1 : w6.cell? (ad.add (kn - 1)) = some (.int .i64 (bl l kn)) := by
              rw [← blist_get l (by rw [hlen.out]; omega) hk]; exact he6.cell (hcell _ (by omega))
            clear hmap6 hmap he5
            go_wp2_with fail
            go_roundw
            case rel => exact ⟨bl l kn, cnt + 1, kn :: S, rfl, by omega, metB_step hm.out hk, by omega, hmap7, he6⟩
            case measure => simp [intOf]; omega
        · obtain rfl : kn = 0 := by omega
          go_wp2_with fail
          go_loopw [9] (fun k w5 => ∃ kn : Nat, k = .int .i64 kn ∧ 1 ≤ kn ∧ kn ≤ n ∧ MapI w5 w4.heap.size cnt (inF S) ∧ Ext w4 w5) (fun k _ => n - (intOf k).toNat)
          case atStart => exact ⟨1, rfl, Nat.le_refl _, by omega, hmap, he5⟩
          case round =>
            clear hmap he5
            obtain ⟨kn, rfl, hk1, hkn, hmap, he5⟩ := hrel
            by_cases hlt : kn < n
            · have e5 := hee.trans he5
              obtain ⟨a0, rfl, _⟩ := hl.at_ h0
              have i1 := (hl.ext e5).front (k := kn) (by omega)
              have i2 := (hl.ext e5).back (k := n - kn) (by omega)
              have hif : ¬ c = n - kn := by omega
              have hget : ∀ q, (Instr.lookup 28 (.map (some w4.heap.size)) (.int .i64 kn) false).run Try.prog (wr.drewN q) = .ok (.int .i64 (inF S kn)) (wr.drewN q) := fun q =>
                (hmap.ext (Ext.drewN _ q)).get Try.underlying28 (by simp [Lit.wf, IntKind.min, IntKind.max, IntKind.signed, IntKind.bits]; omega)
              have heq := eq_bor (j := kn) hlen.out hlt
              have hin := metB_end hm.out (j := kn) hk1
              have hq : eqB (l.take kn) (l.drop (n - kn)) = decide (bor l n kn) := by
                rw [← heq]; congr 1
                exact (List.take_of_length_le (by rw [List.length_drop, hlen.out]; omega)).symm
              clear heq
              by_cases hbor : bor l n kn
              all_goals
                first | rw [if_pos hbor] at hin | rw [if_neg hbor] at hin
                first | rw [decide_eq_true hbor] at hq | rw [decide_eq_false hbor] at hq
                have HB := Lib.hid hbor
                clear hbor
                go_wp2_with fail
                go_quiet ((go_at_call 9; exact quiet_drew (equal_ok (i1.ext (Ext.drewN _ _)) (i2.ext (Ext.drewN _ _)))))
                go_wp2_with fail
                go_roundw
                case rel => exact ⟨kn + 1, by go_num, by omega, by omega, hmap.ext (Ext.drewN _ _), he5.to_drewN _⟩
                case measure => simp [intOf]; omega
            · go_wp2_with fail
              go_ret
              exact ⟨rfl, hee.trans he5⟩
  · refine (borders_large (by omega) (by unfold maxLen; omega)).mono ?_
    rintro e w4 ⟨rfl, rfl⟩
    go_wp2_with fail
    go_ret
    exact ⟨rfl, he⟩
end Go.Proofs.Ytgpagfbmbnlcpaa
