/-
  seek.All: where a word stands in a line: the plain law of Knuth, Morris and Pratt, and the walk.
-/
import Derived.Test.YtbhbakejpgndmaaSeekB
import Derived.Test.YtbhbakejpgndmaaLib
namespace Go.Proofs.Ytbhbakejpgndmaa
open Go.RowKit
set_option linter.unusedVariables false

/-- The first k numbers of p are the last ones of the first i of s. -/
def suf (p s : List Int) (i k : Nat) : Prop := k ≤ i ∧ k ≤ p.length ∧ ∀ j, j < k → gI p j = gI s (i - k + j)
/-- p stands at place x of s. -/
def occ (p s : List Int) (x : Nat) : Prop := ∀ j, j < p.length → gI p j = gI s (x + j)
instance (p s : List Int) (x : Nat) : Decidable (occ p s x) := by unfold occ; exact inferInstance

theorem suf_zero (p s : List Int) (i : Nat) : suf p s i 0 := ⟨Nat.zero_le _, Nat.zero_le _, fun _ h => absurd h (by omega)⟩
theorem suf_pred {p s : List Int} {i k : Nat} (h : suf p s (i + 1) (k + 1)) : suf p s i k ∧ gI p k = gI s i := by
  obtain ⟨h1, h2, h3⟩ := h
  refine ⟨⟨by omega, by omega, fun j hj => ?_⟩, ?_⟩
  · rw [h3 j (by omega)]; congr 1; omega
  · rw [h3 k (by omega)]; congr 1; omega
theorem suf_succ {p s : List Int} {i k : Nat} (h : suf p s i k) (hk : k < p.length) (he : gI p k = gI s i) : suf p s (i + 1) (k + 1) := by
  obtain ⟨h1, h2, h3⟩ := h
  refine ⟨by omega, by omega, fun j hj => ?_⟩
  rcases Nat.lt_or_ge j k with h4 | h4
  · rw [h3 j h4]; congr 1; omega
  · obtain rfl : j = k := by omega
    rw [he]; congr 1; omega
theorem suf_bor {p s : List Int} {i k j : Nat} (h : suf p s i k) (h' : bor p k j) : suf p s i j := by
  obtain ⟨h1, h2, h3⟩ := h
  have h4 := h'.1
  refine ⟨by omega, by omega, fun t ht => ?_⟩
  rw [h'.2 t ht, h3 (k - j + t) (by omega)]
  congr 1
  omega
theorem bor_of_suf {p s : List Int} {i k j : Nat} (h : suf p s i k) (h' : suf p s i j) (hlt : j < k) : bor p k j := by
  obtain ⟨h1, h2, h3⟩ := h
  obtain ⟨g1, g2, g3⟩ := h'
  refine ⟨hlt, fun t ht => ?_⟩
  rw [g3 t ht, h3 (k - j + t) (by omega)]
  congr 1
  omega

def maxS (p s : List Int) (i k : Nat) : Prop := suf p s i k ∧ k < p.length ∧ ∀ j, suf p s i j → j < p.length → j ≤ k
def canS (p s : List Int) (i k : Nat) : Prop := suf p s i k ∧ k < p.length ∧ ∀ j, suf p s (i + 1) (j + 1) → j ≤ k
theorem maxS_start {p : List Int} (s : List Int) (h : 0 < p.length) : maxS p s 0 0 := ⟨suf_zero _ _ _, h, fun j hj _ => hj.1⟩
theorem canS_start {p s : List Int} {i k : Nat} (h : maxS p s i k) : canS p s i k :=
  ⟨h.1, h.2.1, fun j hj => h.2.2 j (suf_pred hj).1 (by have := hj.2.1; omega)⟩
theorem canS_step {p s : List Int} {i k : Nat} (h : canS p s i k) (hk : 0 < k) (hne : gI p k ≠ gI s i) : canS p s i (bl p k) := by
  have hb := @bl_bor p k hk
  refine ⟨suf_bor h.1 hb, by have := hb.1; have := h.2.1; omega, fun j hj => ?_⟩
  have h1 := h.2.2 j hj
  obtain ⟨h2, h3⟩ := suf_pred hj
  have : j ≠ k := fun e => hne (by rw [← e]; exact h3)
  exact bl_max (bor_of_suf h.1 h2 (by omega))
/-- Behind the next number: it went on. -/
theorem hit_max {p s : List Int} {i k : Nat} (h : canS p s i k) (he : gI p k = gI s i) (hm : k + 1 < p.length) : maxS p s (i + 1) (k + 1) :=
  ⟨suf_succ h.1 h.2.1 he, hm, fun j hj _ => by
    rcases j with _ | j
    · omega
    · have := h.2.2 j hj; omega⟩
theorem full_max {p s : List Int} {i k : Nat} (h : canS p s i k) (he : gI p k = gI s i) (hm : k + 1 = p.length) : maxS p s (i + 1) (bl p p.length) := by
  have h0 : 0 < p.length := by omega
  have hs := suf_succ h.1 h.2.1 he
  rw [hm] at hs
  have hb := @bl_bor p p.length h0
  exact ⟨suf_bor hs hb, hb.1, fun j hj hlt => bl_max (bor_of_suf hs hj hlt)⟩
theorem miss_max {p s : List Int} {i : Nat} (h : canS p s i 0) (hne : gI p 0 ≠ gI s i) : maxS p s (i + 1) 0 :=
  ⟨suf_zero _ _ _, h.2.1, fun j hj _ => by
    rcases j with _ | j
    · omega
    · have h1 := h.2.2 j hj
      obtain rfl : j = 0 := by omega
      exact absurd (suf_pred hj).2 hne⟩

/-- The places found behind i numbers of the line. -/
def posl (p s : List Int) (i : Nat) : List Int := ((List.range (i + 1 - p.length)).filter fun x => decide (occ p s x)).map fun x : Nat => (x : Int)
def allP (p s : List Int) : List Int := posl p s s.length

theorem posl_start {p : List Int} (s : List Int) (h : 0 < p.length) : posl p s 0 = [] := by
  unfold posl
  rw [show 0 + 1 - p.length = 0 by omega]
  rfl
theorem posl_yes {p s : List Int} {i k : Nat} (h : canS p s i k) (he : gI p k = gI s i) (hm : k + 1 = p.length) : posl p s (i + 1) = posl p s i ++ [((i : Int) + 1 - p.length)] := by
  have hs := suf_succ h.1 h.2.1 he
  rw [hm] at hs
  obtain ⟨h1, h2, h3⟩ := hs
  have ho : occ p s (i + 1 - p.length) := fun j hj => h3 j hj
  unfold posl
  rw [show i + 1 + 1 - p.length = (i + 1 - p.length) + 1 by omega, List.range_succ, List.filter_append, List.map_append]
  congr 1
  simp [ho]
  omega
theorem posl_no {p s : List Int} {i : Nat} (h0 : 0 < p.length) (hno : ¬ suf p s (i + 1) p.length) : posl p s (i + 1) = posl p s i := by
  unfold posl
  rcases Nat.lt_or_ge (i + 1) p.length with h1 | h1
  · rw [show i + 1 + 1 - p.length = 0 by omega, show i + 1 - p.length = 0 by omega]
  · rw [show i + 1 + 1 - p.length = (i + 1 - p.length) + 1 by omega, List.range_succ, List.filter_append, List.map_append]
    have ho : ¬ occ p s (i + 1 - p.length) := fun ho => hno ⟨h1, Nat.le_refl _, fun j hj => ho j hj⟩
    simp [ho]
theorem no_of_hit {p s : List Int} {i k : Nat} (h : canS p s i k) (hm : k + 1 < p.length) : ¬ suf p s (i + 1) p.length := fun hs => by
  have h1 : p.length = (p.length - 1) + 1 := by omega
  rw [h1] at hs
  have := h.2.2 _ hs
  omega
theorem no_of_miss {p s : List Int} {i : Nat} (h : canS p s i 0) (hne : gI p 0 ≠ gI s i) : ¬ suf p s (i + 1) p.length := fun hs => by
  have h0 := h.2.1
  have h1 : p.length = (p.length - 1) + 1 := by omega
  rw [h1] at hs
  have h2 := h.2.2 _ hs
  have h3 : p.length - 1 = 0 := by omega
  rw [h3] at hs
  exact hne (suf_pred hs).2
theorem posl_len (p s : List Int) (i : Nat) : (posl p s i).length ≤ i + 1 := by
  unfold posl
  rw [List.length_map]
  refine Nat.le_trans (List.length_filter_le _ _) ?_
  simp
theorem posl_nil (s : List Int) (i : Nat) : posl [] s i = (List.range (i + 1)).map fun x : Nat => (x : Int) := by
  unfold posl
  rw [List.filter_eq_self.2]
  · rfl
  · intro x _
    simp [occ]

theorem range_snoc (k : Nat) : (List.range (k + 1)).map (fun x : Nat => (x : Int)) = (List.range k).map (fun x : Nat => (x : Int)) ++ [(k : Int)] := by
  rw [List.range_succ, List.map_append]; rfl

set_option maxHeartbeats 2000000 in
theorem all_empty {s : List Int} {A B : Option Addr} {m d c : Nat} {w : World} (hp : Ints w A 0 c []) (hs : Ints w B m d s) (hm : m ≤ 4096) :
    Calls Try.prog 56 #[.slice A 0 c, .slice B m d] w fun e w' => ∃ C n' c', e = .returned (.tuple #[.slice C n' c', .int .i64 0]) ∧ OwnI w' w.heap.size C n' c' (allP [] s) ∧ Ext w w' := by
  obtain ⟨i0, hi, hz0, hz1, hz2⟩ := info_parts info_int
  have hlen := Lib.hid hs.len
  go_enter Try.func56, Try.ntmps56
  go_wp2_with fail
  refine (borders_ints hp (by omega)).mono ?_
  rintro e w1 ⟨B1, rfl, hb1, he1⟩
  go_wp2_with fail
  go_loopw [8, 30] (fun v i wr => ∃ (k : Nat) (C : Option Addr) (c' : Nat), k ≤ m + 1 ∧ i = .int .i64 k ∧ v = .slice C k c' ∧ OwnI wr w1.heap.size C k c' ((List.range k).map fun x : Nat => (x : Int)) ∧ Ext w1 wr) (fun _ i _ => m + 1 - (intOf i).toNat)
  case atStart => exact ⟨0, none, 0, by omega, rfl, rfl, OwnI.nil _ _, Ext.refl _⟩
  case round =>
    obtain ⟨k, C, c', hk, rfl, rfl, hown, he2⟩ := hrel
    by_cases hlt : k < m + 1
    · go_wp2_with (at_builtin; refine wpList_push rfl (.tmp 33) (.tmp 35) 22 rfl w1 w1.heap.size 3 i0 (.int .i64 0) 1 8 Try.underlying22 hi hz0 hz1 hz2 rfl (by decide) C k c' _ rfl hown #[.int .i64 k] rfl ?_ rfl ?_ ?_ he2 (Nat.le_refl _) he2.hsize ?_)
      · rfl
      · unfold maxLen; omega
      · omega
      · intro C2 c2 w2 hown' _ _ he'
        have hown2 : OwnI w2 w1.heap.size C2 (k + 1) c2 ((List.range (k + 1)).map fun x : Nat => (x : Int)) := by
          rw [range_snoc]; simpa [OwnI] using hown'
        clear hown hown' he2
        go_wp2_with fail
        go_roundw
        case rel => exact ⟨k + 1, C2, c2, by omega, by go_num, rfl, hown2, he'⟩
        case measure => simp [intOf]; omega
    · obtain rfl : k = m + 1 := by omega
      go_wp2_with fail
      go_ret2
      exact ⟨C, m + 1, c', rfl, by unfold allP; rw [posl_nil, hlen.out]; exact Own.lower hown he1.hsize, he1.trans he2⟩

set_option maxRecDepth 20000 in
set_option maxHeartbeats 4000000 in
theorem all_some {p s : List Int} {A B : Option Addr} {n m c d : Nat} {w : World} (hp : Ints w A n c p) (hs : Ints w B m d s) (hn : n ≤ 4096) (h0 : 0 < n) (hm : m ≤ 4096) :
    Calls Try.prog 56 #[.slice A n c, .slice B m d] w fun e w' => ∃ C n' c', e = .returned (.tuple #[.slice C n' c', .int .i64 0]) ∧ OwnI w' w.heap.size C n' c' (allP p s) ∧ Ext w w' := by
  obtain ⟨i0, hi, hz0, hz1, hz2⟩ := info_parts info_int
  have hpl := Lib.hid hp.len
  have hsl := Lib.hid hs.len
  have hn0 : ((n : Int) == 0) = false := by simp; omega
  obtain ⟨pa, rfl, hpc⟩ := hp.at_ h0
  go_enter Try.func56, Try.ntmps56
  go_wp2_with fail
  refine (borders_ints hp (by omega)).mono ?_
  rintro e w1 ⟨B1, rfl, hb1, he1⟩
  obtain ⟨ba, rfl, hbc⟩ := hb1.at_ h0
  go_wp2_with fail
  go_loopw [8, 10, 41] (fun v k i wr => ∃ (kn j q : Nat) (C : Option Addr) (c' : Nat), kn < n ∧ j ≤ m ∧ q ≤ j + 1 ∧ k = .int .i64 kn ∧ i = .int .i64 j ∧ v = .slice C q c' ∧ Hid (maxS p s j kn) ∧ OwnI wr w1.heap.size C q c' (posl p s j) ∧ Ext w1 wr) (fun _ _ i _ => m - (intOf i).toNat)
  case atStart => exact ⟨0, 0, 0, none, 0, h0, by omega, by omega, rfl, rfl, rfl, maxS_start s (by rw [hpl.out]; exact h0), by rw [posl_start s (by rw [hpl.out]; exact h0)]; exact OwnI.nil _ _, Ext.refl _⟩
  case round =>
    obtain ⟨kn, j, q, C, c', hkn, hj, hq, rfl, rfl, rfl, hmx, hown, he2⟩ := hrel
    by_cases hlt : j < m
    · obtain ⟨sa, rfl, hsc⟩ := hs.at_ hlt
      have sj := he2.cell (he1.cell (hsc j hlt))
      go_wp2_with fail
      go_loopw [10] (fun k w2 => ∃ kn : Nat, kn < n ∧ k = .int .i64 kn ∧ Hid (canS p s j kn) ∧ w2 = wr) (fun k _ => (intOf k).toNat)
      case atStart => exact ⟨kn, hkn, rfl, canS_start hmx.out, rfl⟩
      case round =>
        clear hmx hkn
        obtain ⟨kn, hkn, rfl, hcan, rfl⟩ := hrel
        have pk := he2.cell (he1.cell (hpc kn hkn))
        by_cases hne : gI p kn = gI s j
        · have e1 : (gI p kn == gI s j) = true := by simpa using hne
          have e2 : (gI p kn != gI s j) = false := by simpa using hne
          have HN := Lib.hid hne
          clear hne
          by_cases hfull : kn + 1 = n
          · have hf : ((kn : Int) + 1 == n) = true := by simp; omega
            have bk : w1.cell? (ba.add kn) = some (.int .i64 (bl p n)) := by
              rw [← blist_get p (by rw [hpl.out]; exact Nat.le_refl _) h0, show n - 1 = kn by omega]; exact hbc kn (by omega)
            have hblt := @bl_lt p n h0
            have hposl : Hid (posl p s (j + 1) = posl p s j ++ [((j : Int) + 1 - (n : Int))]) := by
              have := posl_yes hcan.out HN.out (by rw [hpl.out]; exact hfull)
              rw [hpl.out] at this
              exact this
            have hmx : Hid (maxS p s (j + 1) (bl p n)) := by
              have := full_max hcan.out HN.out (by rw [hpl.out]; exact hfull)
              rw [hpl.out] at this
              exact this
            have HF := Lib.hid hfull
            have hfull' : kn + 1 ≤ n := by omega
            clear hfull
            rcases Nat.eq_zero_or_pos kn with hk0 | hk0
            · subst hk0
              rw [add_nought] at pk bk
              have hf1 : ((1 : Int) == n) = true := hf
              clear hcan HN hf
              go_wp2_with (at_builtin; refine wpList_push rfl (.tmp 73) (.tmp 78) 22 rfl w1 w1.heap.size 3 i0 (.int .i64 0) 1 8 Try.underlying22 hi hz0 hz1 hz2 rfl (by decide) C q c' _ rfl hown _ rfl ?_ rfl ?_ ?_ he2 (Nat.le_refl _) he2.hsize ?_)
              · rfl
              · unfold maxLen; omega
              · omega
              · intro C2 c2 w2 hown' _ _ he'
                have hown2 : OwnI w2 w1.heap.size C2 (q + 1) c2 (posl p s (j + 1)) := by
                  rw [hposl.out, show (j : Int) + 1 - n = (j : Int) by have := HF.out; omega]; simpa [OwnI] using hown'
                have bk2 := he'.cell bk
                clear hown hown' he2 bk
                go_wp2_with fail
                go_roundw
                case rel => exact ⟨bl p n, j + 1, q + 1, C2, c2, hblt, by omega, by omega, rfl, by go_num, rfl, hmx, hown2, he'⟩
                case measure => simp [intOf]; omega
            · clear hcan HN
              go_wp2_with (at_builtin; refine wpList_push rfl (.tmp 73) (.tmp 78) 22 rfl w1 w1.heap.size 3 i0 (.int .i64 0) 1 8 Try.underlying22 hi hz0 hz1 hz2 rfl (by decide) C q c' _ rfl hown _ rfl ?_ rfl ?_ ?_ he2 (Nat.le_refl _) he2.hsize ?_)
              · rfl
              · unfold maxLen; omega
              · omega
              · intro C2 c2 w2 hown' _ _ he'
                have hown2 : OwnI w2 w1.heap.size C2 (q + 1) c2 (posl p s (j + 1)) := by
                  rw [hposl.out, show (j : Int) + 1 - n = (j : Int) + 1 - (kn + 1) by have := HF.out; omega]; simpa [OwnI] using hown'
                have bk2 := he'.cell bk
                clear hown hown' he2 bk
                go_wp2_with fail
                go_roundw
                case rel => exact ⟨bl p n, j + 1, q + 1, C2, c2, hblt, by omega, by omega, rfl, by go_num, rfl, hmx, hown2, he'⟩
                case measure => simp [intOf]; omega
          · have hf : ((kn : Int) + 1 == n) = false := by simp; omega
            have hposl : Hid (posl p s (j + 1) = posl p s j) := posl_no (by rw [hpl.out]; exact h0) (no_of_hit hcan.out (by rw [hpl.out]; omega))
            have hmx : Hid (maxS p s (j + 1) (kn + 1)) := hit_max hcan.out HN.out (by rw [hpl.out]; omega)
            rcases Nat.eq_zero_or_pos kn with hk0 | hk0
            · subst hk0
              rw [add_nought] at pk
              clear hcan HN
              go_wp2_with fail
              go_roundw
              case rel => exact ⟨1, j + 1, q, C, c', by omega, by omega, by omega, by go_num, by go_num, rfl, hmx, by rw [hposl.out]; exact hown, he2⟩
              case measure => simp [intOf]; omega
            · clear hcan HN
              go_wp2_with fail
              go_roundw
              case rel => exact ⟨kn + 1, j + 1, q, C, c', by omega, by omega, by omega, by go_num, by go_num, rfl, hmx, by rw [hposl.out]; exact hown, he2⟩
              case measure => simp [intOf]; omega
        · have e1 : (gI p kn == gI s j) = false := by simpa using hne
          have e2 : (gI p kn != gI s j) = true := by simpa using hne
          rcases Nat.eq_zero_or_pos kn with hk0 | hk0
          · subst hk0
            rw [add_nought] at pk
            have hf : ((0 : Int) == n) = false := by simp; omega
            have hposl : Hid (posl p s (j + 1) = posl p s j) := posl_no (by rw [hpl.out]; exact h0) (no_of_miss hcan.out hne)
            have hmx : Hid (maxS p s (j + 1) 0) := miss_max hcan.out hne
            clear hne hcan
            go_wp2_with fail
            go_roundw
            case rel => exact ⟨0, j + 1, q, C, c', h0, by omega, by omega, by go_num, by go_num, rfl, hmx, by rw [hposl.out]; exact hown, he2⟩
            case measure => simp [intOf]; omega
          · have bk : wr.cell? (ba.add (kn - 1)) = some (.int .i64 (bl p kn)) := by
              rw [← blist_get p (by rw [hpl.out]; omega) hk0]; exact he2.cell (hbc _ (by omega))
            have hblt := @bl_lt p kn hk0
            have hcan' : Hid (canS p s j (bl p kn)) := canS_step hcan.out hk0 hne
            clear hne hcan
            go_wp2_with fail
            go_roundw
            case rel => exact ⟨bl p kn, by omega, rfl, hcan', trivial⟩
            case measure => simp [intOf]; omega
    · obtain rfl : j = m := by omega
      go_wp2_with fail
      go_ret2
      exact ⟨C, q, c', rfl, by unfold allP; rw [hsl.out]; exact Own.lower hown he1.hsize, he1.trans he2⟩
end Go.Proofs.Ytbhbakejpgndmaa
