/-
  word.Back, word.End: the walks; what WordWays asks, in plain Lean.
-/
import Derived.Test.YtkjlgfokgpdliaaWordL
import Derived.IntWalk
namespace Go.Proofs.Ytkjlgfokgpdliaa
open Go.RowKit
set_option linter.unusedVariables false

/-- A word begins there. -/
def beginsP (l : List Int) (i : Nat) (big : Bool) : Prop := i < l.length ∧ kindAt l big i ≠ 0 ∧ (i = 0 ∨ kindAt l big ((i : Int) - 1) ≠ kindAt l big i)

theorem next_way {l : List Int} {k : Nat} {big : Bool} (hk : k ≤ l.length) (h : nextF l k big < l.length) : k < nextF l k big ∧ beginsP l (nextF l k big) big ∧ backF l (nextF l k big) big ≤ k := by
  obtain ⟨a1, a2, a3, m, a4, a5, a6, a7, a8, a9⟩ := nextF_facts (big := big) hk
  generalize nextF l k big = X at *
  have hlt : k < X := by
    rcases Nat.lt_or_ge k X with h1 | h1
    · exact h1
    · rcases a3 (by omega) with h3 | ⟨h2, h3, h4⟩
      · omega
      · exact absurd (kindAt_pos h2 h3) h4
  refine ⟨hlt, ⟨h, a9, .inr ?_⟩, ?_⟩
  · rw [show ((X : Int) - 1) = ((X - 1 : Nat) : Int) by omega]
    rcases Nat.lt_or_ge (X - 1) m with h4 | h4
    · obtain ⟨e1, e2⟩ := a6 (X - 1) (by omega) h4
      have hm : m = X := by omega
      rw [e1, ← hm]
      exact fun e => a7 e2 e.symm
    · rw [a8 (X - 1) h4 (by omega)]
      exact fun e => a9 e.symm
  · unfold backF
    obtain ⟨b1, b2, b3⟩ := runL_spec (l := l) (big := big) (kind := 0) X
    generalize runL l big 0 X = j at *
    split
    · omega
    · rename_i hj
      rcases b3 with b3 | b3
      · omega
      rw [show ((j : Int) - 1) = ((j - 1 : Nat) : Int) by omega] at b3 ⊢
      have hjm : j ≤ m := Nat.le_of_not_lt fun hgt => b3 (a8 (j - 1) (by omega) (by omega))
      obtain ⟨c1, c2, c3⟩ := runL_spec (l := l) (big := big) (kind := kindAt l big (j - 1 : Nat)) j
      generalize runL l big (kindAt l big (j - 1 : Nat)) j = r at *
      rcases Nat.lt_or_ge k j with h5 | h5
      · refine Nat.le_of_not_lt fun hgt => ?_
        rcases c3 with c3 | c3
        · omega
        · rw [show ((r : Int) - 1) = ((r - 1 : Nat) : Int) by omega, (a6 (r - 1) (by omega) (by omega)).1, (a6 (j - 1) (by omega) (by omega)).1] at c3
          exact c3 rfl
      · omega

theorem back_way {l : List Int} {k : Nat} {big : Bool} (hk : k ≤ l.length) : backF l k big = 0 ∨ (0 < backF l k big ∧ backF l k big < k ∧ beginsP l (backF l k big) big) := by
  unfold backF
  obtain ⟨b1, b2, b3⟩ := runL_spec (l := l) (big := big) (kind := 0) k
  generalize runL l big 0 k = j at *
  split
  · exact .inl rfl
  · rename_i hj
    rcases b3 with b3 | b3
    · omega
    rw [show ((j : Int) - 1) = ((j - 1 : Nat) : Int) by omega] at b3 ⊢
    obtain ⟨c1, c2, c3⟩ := runL_spec (l := l) (big := big) (kind := kindAt l big (j - 1 : Nat)) j
    generalize runL l big (kindAt l big (j - 1 : Nat)) j = r at *
    rcases Nat.eq_zero_or_pos r with h0 | h0
    · exact .inl h0
    · rcases c3 with c3 | c3
      · omega
      have hr : r < j := by
        rcases Nat.lt_or_ge r j with h | h
        · exact h
        · exfalso
          apply c3
          congr 1
          omega
      have e := c2 r (Nat.le_refl _) hr
      exact .inr ⟨h0, by omega, by omega, by rw [e]; exact b3, .inr (by rw [e]; exact c3)⟩

theorem end_way {l : List Int} {k : Nat} {big : Bool} (hk : k ≤ l.length) :
    (l.length = 0 ∧ endF l k big = 0) ∨ (0 < l.length ∧ endF l k big = l.length - 1) ∨ (k < endF l k big ∧ endF l k big + 1 < l.length ∧ kindAt l big (endF l k big) ≠ kindAt l big (endF l k big + 1 : Nat)) := by
  unfold endF
  obtain ⟨b1, b2, b3, b4⟩ := runR_spec (l := l) (big := big) (kind := 0) (by omega) (k + 1)
  generalize runR l big 0 (k + 1) = j at *
  split
  · rcases Nat.eq_zero_or_pos l.length with h | h
    · exact .inl ⟨h, by omega⟩
    · exact .inr (.inl ⟨h, rfl⟩)
  · rename_i hj
    have hp := kindAt_pos (l := l) (big := big) (k := j) (by omega) b3
    obtain ⟨c1, c2, c3, c4⟩ := runR_spec (l := l) (big := big) (kind := kindAt l big j) (by omega) j
    generalize runR l big (kindAt l big j) j = r at *
    have hr : j < r := by
      rcases Nat.lt_or_ge j r with h | h
      · exact h
      · exact absurd (by congr 1; omega) c3
    have e := c2 (r - 1) (by omega) (by omega)
    rcases Nat.lt_or_ge r l.length with h | h
    · refine .inr (.inr ⟨by omega, by omega, ?_⟩)
      rw [e, show r - 1 + 1 = r by omega]
      exact fun h => c3 h.symm
    · exact .inr (.inl ⟨by omega, by omega⟩)

/-- backF is no greater than the place. -/
theorem backF_le {l : List Int} {k : Nat} {big : Bool} (hk : k ≤ l.length) : backF l k big ≤ k := by
  rcases back_way (big := big) hk with h | ⟨_, h, _⟩ <;> omega

set_option maxHeartbeats 400000 in
theorem wback_bad {A : Option Addr} {n c : Nat} {k : Int} {big : Bool} {w : World} (hnc : n ≤ c) (hcm : c ≤ maxLen) (h : wbad n k) :
    Calls Try.prog 12 #[.slice A n c, .int .i64 k, .bool big] w fun e w' => e = .returned (.tuple #[.int .i64 0, .int .i64 (if n > 4096 then 2 else 1)]) ∧ w' = w := by
  have HR := Lib.hid (@wright_ok A n c k w hnc hcm)
  have hv : (if n > 4096 then (2 : Int) else if k < 0 ∨ k > n then 1 else 0) = (if n > 4096 then 2 else 1) := by
    unfold wbad at h
    split
    · rfl
    · rw [if_pos (by omega)]
  rw [hv] at HR
  have hne : ((if n > 4096 then (2 : Int) else 1) != 0) = true := by split <;> rfl
  revert HR hne
  generalize (if n > 4096 then (2 : Int) else 1) = v
  intro HR hne
  clear hv h
  unfold maxLen at hcm
  go_enter Try.func12, Try.ntmps12
  go_wp2_with fail
  refine HR.out.mono ?_
  rintro e w1 ⟨rfl, rfl⟩
  clear HR
  go_wp2_with fail
  go_ret2
  exact ⟨rfl, rfl⟩

set_option maxHeartbeats 400000 in
theorem wend_bad {A : Option Addr} {n c : Nat} {k : Int} {big : Bool} {w : World} (hnc : n ≤ c) (hcm : c ≤ maxLen) (h : wbad n k) :
    Calls Try.prog 13 #[.slice A n c, .int .i64 k, .bool big] w fun e w' => e = .returned (.tuple #[.int .i64 0, .int .i64 (if n > 4096 then 2 else 1)]) ∧ w' = w := by
  have HR := Lib.hid (@wright_ok A n c k w hnc hcm)
  have hv : (if n > 4096 then (2 : Int) else if k < 0 ∨ k > n then 1 else 0) = (if n > 4096 then 2 else 1) := by
    unfold wbad at h
    split
    · rfl
    · rw [if_pos (by omega)]
  rw [hv] at HR
  have hne : ((if n > 4096 then (2 : Int) else 1) != 0) = true := by split <;> rfl
  revert HR hne
  generalize (if n > 4096 then (2 : Int) else 1) = v
  intro HR hne
  clear hv h
  unfold maxLen at hcm
  go_enter Try.func13, Try.ntmps13
  go_wp2_with fail
  refine HR.out.mono ?_
  rintro e w1 ⟨rfl, rfl⟩
  clear HR
  go_wp2_with fail
  go_ret2
  exact ⟨rfl, rfl⟩

set_option maxHeartbeats 1000000 in
theorem wback_ok {l : List Int} {A : Option Addr} {n c : Nat} {k : Nat} {big : Bool} {w : World} (hl : Ints w A n c l) (hn : n ≤ 4096) (hk : k ≤ n) :
    Calls Try.prog 12 #[.slice A n c, .int .i64 k, .bool big] w fun e w' => e = .returned (.tuple #[.int .i64 (backF l k big), .int .i64 0]) ∧ Ext w w' := by
  have hnc := hl.ncap
  have hcm := hl.nmax
  have hlen := Lib.hid hl.len
  have HR := Lib.hid (@wright_ok A n c k w hnc hcm)
  have hv : (if n > 4096 then (2 : Int) else if (k : Int) < 0 ∨ (k : Int) > n then 1 else 0) = 0 := by
    rw [if_neg (by omega), if_neg (by omega)]
  rw [hv] at HR
  clear hv
  unfold maxLen at hcm
  go_enter Try.func12, Try.ntmps12
  go_wp2_with fail
  refine HR.out.mono ?_
  rintro e w1 ⟨rfl, rfl⟩
  clear HR
  have HK := Lib.hid (overL_ok (big := big) (hl.ext (Ext.alloc w1 (.cells #[.slice A n c, .bool big] 48))) k 0 (by omega) (by omega) hn)
  go_wp2_with fail
  refine HK.out.mono ?_
  rintro e w2 ⟨rfl, he2⟩
  clear HK
  have hb := (Blk.new w1 48 #[.slice A n c, .bool big]).ext he2
  have he := (Ext.alloc w1 (.cells #[.slice A n c, .bool big] 48)).trans he2
  have hl2 := hl.ext he
  clear hl he2
  obtain ⟨j1, -, -⟩ := runL_spec (l := l) (big := big) (kind := 0) k
  have HB : Hid (backF l k big = if runL l big 0 k = 0 then 0 else runL l big (kindAt l big ((runL l big 0 k : Int) - 1)) (runL l big 0 k)) := Lib.hid rfl
  revert HB j1
  generalize runL l big 0 k = j
  intro j1 HB
  rcases Nat.eq_zero_or_pos j with h0 | h0
  · subst h0
    rw [if_pos rfl] at HB
    clear hb
    go_wp2_with fail
    go_ret2
    exact ⟨by rw [HB.out]; rfl, he⟩
  · rw [if_neg (by omega)] at HB
    have e0 : 0 ≤ kindAt l big ((j : Int) - 1) := by
      rw [show ((j : Int) - 1) = ((j - 1 : Nat) : Int) by omega, kindAt_in (by rw [hlen.out]; omega)]
      exact kindF_nn _ _
    have e1 := (kindAt_bd l big ((j : Int) - 1)).2
    obtain ⟨r1, -, -⟩ := runL_spec (l := l) (big := big) (kind := kindAt l big ((j : Int) - 1)) j
    have c0 : ∀ i : ExtW w2, i.w.cell? ⟨w1.heap.size, 0, none⟩ = some (.slice A n c) := fun i => (hb.ext i.h).cell 0
    have c1 : ∀ i : ExtW w2, i.w.cell? ⟨w1.heap.size, 1, none⟩ = some (.bool big) := fun i => (hb.ext i.h).cell 1
    clear hb
    go_wp2_with fail
    refine wp_region_ext (by kernel_rfl) (by kernel_rfl) ?_
    repeat
      refine wpQuiet_step (fun K hK => ?_)
      go_simp
      first
        | (refine hK _ ?_; clear hK K)
        | (refine ⟨_, fun _ => rfl, ?_⟩; refine hK _ ?_; clear hK K)
        | (apply Exists.intro
           refine ⟨fun _ => ?_, hK _ ?_⟩
           (first | (go_at_call 25; exact ext_call (walkerKind_ok (hl2.ext (ExtW.h _)) _ (by omega) (by omega))) | (go_at_call 26; exact ext_call (overL_ok (hl2.ext (ExtW.h _)) j _ (by omega) (by omega) hn)))
           clear hK K)
    refine wpQuiet_nil ?_
    rintro _ ⟨i, rfl⟩
    clear c0 c1
    go_wp2_with fail
    go_ret2
    exact ⟨by rw [HB.out]; simp; exact IntWalk.i64_in _ (by omega), he.trans i.h⟩

set_option maxHeartbeats 1000000 in
theorem wend_ok {l : List Int} {A : Option Addr} {n c : Nat} {k : Nat} {big : Bool} {w : World} (hl : Ints w A n c l) (hn : n ≤ 4096) (hk : k ≤ n) :
    Calls Try.prog 13 #[.slice A n c, .int .i64 k, .bool big] w fun e w' => e = .returned (.tuple #[.int .i64 (endF l k big), .int .i64 0]) ∧ Ext w w' := by
  have hnc := hl.ncap
  have hcm := hl.nmax
  have hlen := Lib.hid hl.len
  have HR := Lib.hid (@wright_ok A n c k w hnc hcm)
  have hv : (if n > 4096 then (2 : Int) else if (k : Int) < 0 ∨ (k : Int) > n then 1 else 0) = 0 := by
    rw [if_neg (by omega), if_neg (by omega)]
  rw [hv] at HR
  clear hv
  unfold maxLen at hcm
  go_enter Try.func13, Try.ntmps13
  go_wp2_with fail
  refine HR.out.mono ?_
  rintro e w1 ⟨rfl, rfl⟩
  clear HR
  have HK := overR_ok (big := big) (hl.ext (Ext.alloc w1 (.cells #[.slice A n c, .bool big] 48))) (k + 1) 0 (by omega) (by omega) hn
  rw [show ((k + 1 : Nat) : Int) = (k : Int) + 1 by omega] at HK
  have HK := Lib.hid HK
  go_wp2_with fail
  refine HK.out.mono ?_
  rintro e w2 ⟨rfl, he2⟩
  clear HK
  have hb := (Blk.new w1 48 #[.slice A n c, .bool big]).ext he2
  have he := (Ext.alloc w1 (.cells #[.slice A n c, .bool big] 48)).trans he2
  have hl2 := hl.ext he
  clear hl he2
  obtain ⟨j1, -, j3, j4⟩ := runR_spec (l := l) (big := big) (kind := 0) (by omega) (k + 1)
  rw [hlen.out] at j4
  have HB : Hid (endF l k big = if n ≤ runR l big 0 (k + 1) then n - 1 else runR l big (kindAt l big (runR l big 0 (k + 1))) (runR l big 0 (k + 1)) - 1) := Lib.hid (by unfold endF; rw [hlen.out])
  have HP : Hid (∀ j, j = runR l big 0 (k + 1) → j < n → 0 < kindAt l big j) := Lib.hid (fun j e h => by subst e; exact kindAt_pos (by rw [hlen.out]; exact h) j3)
  clear j3
  revert HB HP j1 j4
  generalize runR l big 0 (k + 1) = j
  intro j1 j4 HB HP
  rcases Nat.lt_or_ge j n with h0 | h0
  · rw [if_neg (by omega)] at HB
    have e0 := HP.out j rfl h0
    have e1 := (kindAt_bd l big j).2
    have H4 : j < runR l big (kindAt l big j) j ∧ runR l big (kindAt l big j) j ≤ n := by
      obtain ⟨c1, -, c3, c4⟩ := runR_spec (l := l) (big := big) (kind := kindAt l big j) (by omega) j
      rw [hlen.out] at c4
      refine ⟨?_, by omega⟩
      rcases Nat.lt_or_ge j (runR l big (kindAt l big j) j) with h | h
      · exact h
      · exact absurd (by congr 1; omega) c3
    obtain ⟨r1, r2⟩ := H4
    have c0 : ∀ i : ExtW w2, i.w.cell? ⟨w1.heap.size, 0, none⟩ = some (.slice A n c) := fun i => (hb.ext i.h).cell 0
    have c1 : ∀ i : ExtW w2, i.w.cell? ⟨w1.heap.size, 1, none⟩ = some (.bool big) := fun i => (hb.ext i.h).cell 1
    clear hb HP
    go_wp2_with fail
    refine wp_region_ext (by kernel_rfl) (by kernel_rfl) ?_
    repeat
      refine wpQuiet_step (fun K hK => ?_)
      go_simp
      first
        | (refine hK _ ?_; clear hK K)
        | (refine ⟨_, fun _ => rfl, ?_⟩; refine hK _ ?_; clear hK K)
        | (apply Exists.intro
           refine ⟨fun _ => ?_, hK _ ?_⟩
           (first | (go_at_call 25; exact ext_call (walkerKind_ok (hl2.ext (ExtW.h _)) _ (by omega) (by omega))) | (go_at_call 26; exact ext_call (overR_ok (hl2.ext (ExtW.h _)) j _ (by omega) (by omega) hn)))
           clear hK K)
    refine wpQuiet_nil ?_
    rintro _ ⟨i, rfl⟩
    clear c0 c1
    go_wp2_with fail
    go_ret2
    exact ⟨by rw [HB.out]; simp; rw [IntWalk.i64_in _ (by omega)]; omega, he.trans i.h⟩
  · rw [if_pos h0] at HB
    clear hb HP
    go_wp2_with fail
    all_goals
      go_ret2
      exact ⟨by rw [HB.out]; simp; omega, he⟩

end Go.Proofs.Ytkjlgfokgpdliaa
