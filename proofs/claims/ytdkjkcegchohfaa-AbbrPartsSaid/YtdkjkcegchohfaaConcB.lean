/-
  slices.Concat at []int, as much as two arguments may hold.
-/
import Derived.Test.YtdkjkcegchohfaaConc
import Derived.OwnWalk
namespace Go.Proofs.Ytdkjkcegchohfaa
open Go.RowKit
set_option linter.unusedVariables false
set_option linter.unusedSimpArgs false

/-- Lists that lie one behind the other; a nil one holds no room. -/
def ListsN (w : World) (xs : List Value) (ls : List (List Int)) : Prop :=
  xs.length = ls.length ∧ ∀ i, i < ls.length → ∃ A n c, xs[i]? = some (.slice A n c) ∧ Ints w A n c (ls[i]?.getD []) ∧ (A = none → c = 0)
theorem ListsN.lists {w : World} {xs : List Value} {ls : List (List Int)} (h : ListsN w xs ls) : Lists w xs ls :=
  ⟨h.1, fun i hi => let ⟨A, n, c, h1, h2, _⟩ := h.2 i hi; ⟨A, n, c, h1, h2⟩⟩
theorem ListsN.two {w : World} {A B : Option Addr} {n c m d : Nat} {l l' : List Int} (hA : Ints w A n c l) (hA0 : A = none → c = 0) (hB : Ints w B m d l') (hB0 : B = none → d = 0) : ListsN w [.slice A n c, .slice B m d] [l, l'] :=
  ⟨rfl, fun i hi => by
    match i, hi with
    | 0, _ => exact ⟨A, n, c, rfl, hA, hA0⟩
    | 1, _ => exact ⟨B, m, d, rfl, hB, hB0⟩⟩

set_option maxRecDepth 20000 in
set_option maxHeartbeats 1000000 in
theorem grow_big (n : Nat) (w : World) (h0 : 0 < n) (hn : n ≤ 35184372088832) :
    Calls Try.prog 43 #[.slice none 0 0, .int .i64 n] w fun e w' => ∃ g c, e = .returned (.slice (some ⟨g, 0, none⟩) 0 c) ∧ OwnI w' w.heap.size (some ⟨g, 0, none⟩) 0 c [] ∧ n ≤ c ∧ Ext w w' := by
  obtain ⟨i0, hi, hz0, hz1, hz2⟩ := info_parts info_int
  have hrun : ∀ ty, (Builtin.append_ #[23, 3] ty #[.slice none 0 0, .int .i64 (n : Int)]).run Try.prog w =
    .ok (.slice (some ⟨w.heap.size, 0, none⟩) n (grownCap w n 0 3)) (w.drew.alloc (.cells (Builtin.zeroCells (Value.int .i64 0).cells n ++ Builtin.zeroCells (Value.int .i64 0).cells (grownCap w n 0 3 - n)) 3)) := fun ty => by
    have h := Lib.run_append_grow_zeros (P := Try.prog) w 23 3 ty 3 i0 (.int .i64 0) .i64 .i64 Try.underlying23 Try.underlying3 hi hz0 none 0 0 []
      (by simp [Builtin.firstCells]) n h0 (by omega) (by omega) (by omega) (by rw [hz2]; omega)
      (by
        have : Builtin.nextslicecap (0 + n) 0 = n := by unfold Builtin.nextslicecap; rw [if_pos (by omega)]; omega
        rw [this, hz2]; omega)
    simpa using h
  have hcap := grownCap_ge w n 0 3
  have hmax := grownCap_le_maxLen w n 0 3 (by unfold maxLen; omega)
  have hown : OwnI (w.drew.alloc (.cells (Builtin.zeroCells (Value.int .i64 0).cells n ++ Builtin.zeroCells (Value.int .i64 0).cells (grownCap w n 0 3 - n)) 3)) w.heap.size (some ⟨w.heap.size, 0, none⟩) 0 (grownCap w n 0 3) [] :=
    World.ownsRow_made w.drew _ _ (Nat.le_refl _) hmax (by simp [size_zeroCells, Value.cells]; omega)
  obtain ⟨G, hG⟩ : ∃ G, G = grownCap w n 0 3 := ⟨_, rfl⟩
  rw [← hG] at hrun hcap hmax hown
  have HM := Lib.hid hmax
  unfold maxLen at hmax
  clear hG
  go_enter Try.func43, Try.ntmps43
  go_wp2_with (at_builtin; refine wpList_append_run rfl (.tmp 20) (.tmp 21) 23 3 rfl _ _ _ rfl rfl (hrun _) ?_)
  go_ret
  exact ⟨_, G, rfl, hown, hcap, (Ext.drew _).to_alloc _⟩

set_option maxRecDepth 20000 in
set_option maxHeartbeats 4000000 in
theorem concat_some {xs : List Value} {ls : List (List Int)} {S : Option Addr} {k ck : Nat} {w : World} (hS : Rd w 1 S k ck xs) (hL : ListsN w xs ls) (hk : ls.length = k) (hpos : 0 < (ls.flatten).length) (hsm : (ls.flatten).length ≤ 35184372088832) :
    Calls Try.prog 17 #[.slice S k ck] w fun e w' => ∃ B n c, e = .returned (.slice B n c) ∧ OwnI w' w.heap.size B n c ls.flatten ∧ Ext w w' := by
  obtain ⟨i0, hi, hz0, hz1, hz2⟩ := info_parts info_int
  have hkm := Nat.le_trans hS.ncap hS.nmax
  unfold maxLen at hkm
  have HK := Lib.hid hk
  clear hk
  go_enter Try.func17, Try.ntmps17
  go_wp2_with fail
  go_loop [3, 11] (fun s i => ∃ (j z : Nat), j ≤ k ∧ i = .int .i64 j ∧ s = .int .i64 z ∧ Hid (z = tot ls j)) (fun _ i => k - (intOf i).toNat)
  case atStart => exact ⟨0, 0, by omega, rfl, rfl, by show 0 = _; simp [tot]⟩
  case round =>
    obtain ⟨j, z, hj, rfl, rfl, hz⟩ := hrel
    have hzb : z ≤ 35184372088832 := by have := tot_mono ls j; have := hz.out; omega
    by_cases hlt : j < k
    · obtain ⟨sa, rfl, hsc⟩ := hS.at_ hlt
      obtain ⟨A, n, c, hx, hi', hnil⟩ := hL.2 j (by rw [HK.out]; exact hlt)
      have c1 := hsc j _ hx
      have hts := tot_succ (ls := ls) (k := j) (by rw [HK.out]; exact hlt)
      rw [hi'.len] at hts
      have htm := tot_mono ls (j + 1)
      have hz2 : Hid (z + n = tot ls (j + 1)) := by show _ = _; rw [hts, hz.out]
      have hzn : z + n ≤ 35184372088832 := by have := hz2.out; omega
      clear hsc hx hts htm
      go_wp2_with fail
      go_round
      case rel => exact ⟨j + 1, z + n, by omega, by go_num, by go_num, hz2⟩
      case measure => simp [intOf]; omega
    · obtain rfl : j = k := by omega
      have hzt : Hid (z = (ls.flatten).length) := by
        show _ = _
        rw [hz.out]; unfold tot; rw [List.take_of_length_le (by rw [HK.out]; omega)]
      have hzp : 0 < z := by have := hzt.out; omega
      have HZ := Lib.hid hzt.out
      clear hz hzt
      go_wp2_with fail
      refine (grow_big z _ hzp hzb).mono ?_
      rintro e w1 ⟨g, c, rfl, hown, hzc, he⟩
      go_wp2_with fail
      go_loopw [6, 27] (fun v i w2 => ∃ (m q : Nat), m ≤ j ∧ i = .int .i64 m ∧ v = .slice (some ⟨g, 0, none⟩) q c ∧ OwnI w2 w.heap.size (some ⟨g, 0, none⟩) q c (ls.take m).flatten ∧ Ext w w2) (fun _ i _ => j - (intOf i).toNat)
      case atStart => exact ⟨0, 0, by omega, rfl, rfl, by simpa using hown, he⟩
      case round =>
        clear hown he
        obtain ⟨m, q, hm, rfl, rfl, hown, he⟩ := hrel
        by_cases hlt2 : m < j
        · obtain ⟨sa, rfl, hsc⟩ := hS.at_ hlt2
          obtain ⟨A, n, c', hx, hi', hnil⟩ := hL.2 m (by rw [HK.out]; exact hlt2)
          have c1 := he.cell (hsc m _ hx)
          have hql := hown.ints.len
          have hfs := flat_succ (ls := ls) (k := m) (by rw [HK.out]; exact hlt2)
          have hqn : q + n ≤ c := by
            have h1 := tot_mono ls (m + 1)
            unfold tot at h1
            rw [hfs, List.length_append, hql, hi'.len] at h1
            have := HZ.out
            omega
          have HF := Lib.hid hfs
          clear hsc hx hfs hql
          have HH := Lib.hid hown
          have hqg := (hi'.ext he)
          go_wp2_with (at_builtin; refine wpList_append_fits_any wr rfl (.tmp 31) (.tmp 32) 23 rfl w.heap.size 3 i0 1 Try.underlying23 hi hz1 g q c ((ls.take m).flatten.map (Value.int .i64)) rfl HH.out A n c' ((ls[m]?.getD []).map (Value.int .i64)) rfl ?_ ?_ ?_ ?_ hqn ?_)
          · have := hqg.len; rw [List.length_map]; omega
          · exact fun h => ⟨by have := hqg.ncap; have := hnil h; omega, hnil h⟩
          · intro ad had j u hu
            rcases Nat.eq_zero_or_pos n with h0 | h0
            · have : ls[m]?.getD [] = [] := List.eq_nil_of_length_eq_zero (by rw [hqg.len]; exact h0)
              rw [this] at hu; simp at hu
            · obtain ⟨ad', e1, hcc⟩ := Rd.at_ hqg h0
              rw [had] at e1; injection e1 with e1; subst e1
              exact hcc j u hu
          · exact hqg.one
          intro w3 hown' hgr
          have he' : Ext w w3 := Ext.grown he (v := .slice (some ⟨g, 0, none⟩) q c) hgr hown (Nat.le_refl _)
          have hown2 : OwnI w3 w.heap.size (some ⟨g, 0, none⟩) (q + n) c (ls.take (m + 1)).flatten := by
            rw [HF.out]; simpa [OwnI, Own] using hown'
          clear hown hown' he HH hqg hgr
          go_wp2_with fail
          go_roundw
          case rel => exact ⟨m + 1, q + n, by omega, by go_num, rfl, hown2, he'⟩
          case measure => simp [intOf]; omega
        · obtain rfl : m = j := by omega
          rw [List.take_of_length_le (by rw [HK.out]; omega)] at hown
          go_wp2_with fail
          go_ret
          exact ⟨_, q, c, rfl, hown, he⟩
theorem concat_big {xs : List Value} {ls : List (List Int)} {S : Option Addr} {k ck : Nat} {w : World} (hS : Rd w 1 S k ck xs) (hL : ListsN w xs ls) (hk : ls.length = k) (hsm : (ls.flatten).length ≤ 35184372088832) :
    Calls Try.prog 17 #[.slice S k ck] w fun e w' => ∃ B n c, e = .returned (.slice B n c) ∧ OwnI w' w.heap.size B n c ls.flatten ∧ Ext w w' := by
  rcases Nat.eq_zero_or_pos (ls.flatten).length with h0 | h0
  · exact concat_ok hS hL.lists hk (by omega)
  · exact concat_some hS hL hk h0 hsm
end Go.Proofs.Ytdkjkcegchohfaa
