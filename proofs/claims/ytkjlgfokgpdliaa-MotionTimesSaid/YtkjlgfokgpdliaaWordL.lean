/-
  The law WordBig: the walk.
-/
import Derived.Test.YtkjlgfokgpdliaaWord
namespace Go.Proofs.Ytkjlgfokgpdliaa
open Go.RowKit
set_option linter.unusedVariables false

/-- Where no blank lies at k, or k is at the end, the next great word begins where from words' beginnings one gets to: a step of Next (small) from before a great word's next beginning never passes it. -/
theorem nextF_facts {l : List Int} {k : Nat} {big : Bool} (hk : k ≤ l.length) :
    k ≤ nextF l k big ∧ nextF l k big ≤ l.length ∧ (nextF l k big = k → k = l.length ∨ k < l.length ∧ kindAt l big k ≠ 0 ∧ ¬ 0 < kindAt l big k) ∧
    ∃ m, k ≤ m ∧ m ≤ nextF l k big ∧ (∀ i, k ≤ i → i < m → kindAt l big i = kindAt l big k ∧ 0 < kindAt l big k) ∧ (0 < kindAt l big k → kindAt l big m ≠ kindAt l big k) ∧ (∀ i, m ≤ i → i < nextF l k big → kindAt l big i = 0) ∧ kindAt l big (nextF l k big) ≠ 0 := by
  unfold nextF
  split
  · rename_i hp
    obtain ⟨a1, a2, a3, a4⟩ := runR_spec (l := l) (big := big) (kind := kindAt l big k) (by omega) k
    have hlt := (kindAt_len (k := k) rfl (show 0 ≤ kindAt l big k by omega)).2
    have hle : runR l big (kindAt l big k) k ≤ l.length := by rcases a4 with a4 | a4 <;> omega
    obtain ⟨b1, b2, b3, b4⟩ := runR_spec (l := l) (big := big) (kind := 0) (by omega) (runR l big (kindAt l big k) k)
    have hne : runR l big (kindAt l big k) k ≠ k := fun e => a3 (by rw [e])
    refine ⟨by omega, by rcases b4 with b4 | b4 <;> omega, fun e => by omega, _, a1, b1, fun i h1 h2 => ⟨a2 i h1 h2, hp⟩, fun _ => a3, b2, b3⟩
  · rename_i hp
    obtain ⟨b1, b2, b3, b4⟩ := runR_spec (l := l) (big := big) (kind := 0) (by omega) k
    refine ⟨b1, by rcases b4 with b4 | b4 <;> omega, fun e => ?_, k, Nat.le_refl _, b1, fun i h1 h2 => absurd h2 (by omega), fun h => absurd h hp, b2, b3⟩
    rcases Nat.lt_or_ge k l.length with h | h
    · rw [e] at b3
      exact .inr ⟨h, b3, hp⟩
    · exact .inl (by omega)

theorem kind_zero_big {c : Int} : kindF c true = 0 ↔ kindF c false = 0 := by
  unfold kindF
  by_cases h : c = 32 ∨ c = 9
  · rw [if_pos h, if_pos h]
  · rw [if_neg h, if_neg h]; simp; split <;> omega
theorem kindAt_zero_big {l : List Int} {k : Int} : kindAt l true k = 0 ↔ kindAt l false k = 0 := by
  unfold kindAt
  split
  · exact kind_zero_big
  · exact Iff.rfl
theorem kindF_nn (c : Int) (big : Bool) : 0 ≤ kindF c big := (kindF_bd c big).1
theorem kindAt_pos {l : List Int} {big : Bool} {k : Nat} (h : k < l.length) (h0 : kindAt l big k ≠ 0) : 0 < kindAt l big k := by
  rw [kindAt_in h] at h0 ⊢
  have := kindF_nn (gI l k) big
  omega

/-- From ahead of a great word's beginning a word's beginning lies no farther. -/
theorem step_in {l : List Int} {k at_ : Nat} (hk : k ≤ l.length) (h1 : k ≤ at_) (h2 : at_ < nextF l k true) :
    at_ < nextF l at_ false ∧ nextF l at_ false ≤ nextF l k true := by
  obtain ⟨a1, a2, a3, m, a4, a5, a6, a7, a8, a9⟩ := nextF_facts (big := true) hk
  have hat : at_ < l.length := by omega
  obtain ⟨b1, b2, b3, n, b4, b5, b6, b7, b8, b9⟩ := nextF_facts (big := false) (show at_ ≤ l.length by omega)
  refine ⟨?_, ?_⟩
  · rcases Nat.lt_or_ge at_ (nextF l at_ false) with h | h
    · exact h
    · rcases b3 (by omega) with h3 | ⟨_, h3, h4⟩
      · omega
      · exact absurd (kindAt_pos hat h3) h4
  · -- everything in [n, next small) is blank; [at, n) one kind > 0
    refine Nat.le_of_not_lt fun hgt => ?_
    -- the great word's beginning X = nextF l k true lies within
    rcases Nat.lt_or_ge (nextF l k true) n with h3 | h3
    · -- X in [at, n): its kind is > 0 and the one ahead is too; but ahead of X lies a blank or the great word's run
      obtain ⟨c1, c2⟩ := b6 (nextF l k true) (by omega) h3
      have hX1 : at_ ≤ nextF l k true - 1 := by omega
      obtain ⟨d1, d2⟩ := b6 (nextF l k true - 1) hX1 (by omega)
      -- X - 1 is in [m, X) blank, or in [k, m)
      rcases Nat.lt_or_ge (nextF l k true - 1) m with h4 | h4
      · have hm : m = nextF l k true := by omega
        obtain ⟨e1, e2⟩ := a6 (nextF l k true - 1) (by omega) h4
        have e3 := a7 e2
        rw [hm] at e3
        -- both great kinds are 1
        have hXlt : nextF l k true < l.length := by
          have := (kindAt_len (l := l) (big := false) (k := (nextF l k true : Int)) c1 (by omega)).2
          omega
        have g1 : kindAt l true (nextF l k true) = 1 := big_one hXlt a9
        have g2 : kindAt l true k = 1 := big_one (by omega) (by omega)
        omega
      · have := a8 (nextF l k true - 1) h4 (by omega)
        rw [kindAt_zero_big] at this
        omega
    · have := b8 (nextF l k true) h3 hgt
      rw [← kindAt_zero_big] at this
      exact a9 this
where
  big_one {l : List Int} {j : Nat} (h : j < l.length) (h0 : kindAt l true j ≠ 0) : kindAt l true j = 1 := by
    rw [kindAt_in h] at h0 ⊢
    unfold kindF at h0 ⊢
    split at h0
    · exact absurd rfl h0
    · rename_i hb
      rw [if_neg hb]
      simp

theorem wbig_lit : nextF (chars "a-b c".toUTF8) 0 true = 4 := by decide +kernel

set_option maxRecDepth 100000 in
set_option maxHeartbeats 4000000 in
theorem wordBig_walk {A : Option Addr} {n c : Nat} {l : List Int} {k : Int} {w : World} (hl : Ints w A n c l) :
    Calls Try.prog 3 #[.slice A n c, .int .i64 k] w fun e w' => e = .returned (.bool true) ∧ Ext w w' := by
  have hnc := hl.ncap
  have hcm := hl.nmax
  have hlen := Lib.hid hl.len
  go_enter Try.func3, Try.ntmps3
  go_wp2_with fail
  refine (of_ok _ _ (by decide)).mono ?_
  rintro e w1 ⟨B, d, rfl, hown, he1⟩
  have hB := hown.ints
  clear hown
  go_wp2_with fail
  refine (wnext_ok (k := 0) hB (by decide) (by decide)).mono ?_
  rintro e w2 ⟨rfl, he2⟩
  have he := he1.trans he2
  have hlX := hl.ext he
  rw [show nextF (chars { data := #[97, 45, 98, 32, 99] }) 0 true = 4 by decide +kernel]
  clear hB he1 he2
  go_wp2_with fail
  by_cases hb : wbad n k
  · have HB := Lib.hid (wnext_bad (A := A) (big := true) (w := w2) hnc hcm hb)
    by_cases h2 : n > 4096
    · rw [if_pos h2] at HB
      clear hb
      go_wp2_with fail
      refine HB.out.mono ?_
      rintro e w3 ⟨rfl, rfl⟩
      clear HB
      go_wp2_with fail
      go_ret
      exact ⟨rfl, he⟩
    · rw [if_neg h2] at HB
      clear hb
      go_wp2_with fail
      refine HB.out.mono ?_
      rintro e w3 ⟨rfl, rfl⟩
      clear HB
      go_wp2_with fail
      go_ret
      exact ⟨rfl, he⟩
  · have h1 : n ≤ 4096 := by unfold wbad at hb; omega
    have h2 : 0 ≤ k := by unfold wbad at hb; omega
    have h3 : k ≤ n := by unfold wbad at hb; omega
    obtain ⟨kn, rfl⟩ := Int.eq_ofNat_of_zero_le h2
    clear hb
    refine (wnext_ok (k := kn) hlX h1 (by omega)).mono ?_
    rintro e w3 ⟨rfl, he3⟩
    have heY := he.trans he3
    have hlY := hlX.ext he3
    clear hlX he3 he hl
    obtain ⟨a1, a2, -, -⟩ := nextF_facts (l := l) (k := kn) (big := true) (by rw [hlen.out]; omega)
    rw [hlen.out] at a2
    go_wp2_with fail
    go_loopw [9] (fun i wr => ∃ j : Nat, kn ≤ j ∧ j ≤ nextF l kn true ∧ i = .int .i64 j ∧ Ext w wr ∧ Ints wr A n c l) (fun i _ => nextF l kn true - (intOf i).toNat)
    case atStart => exact ⟨kn, Nat.le_refl _, a1, rfl, heY, hlY⟩
    case round =>
      clear heY hlY
      obtain ⟨j, hj1, hj2, rfl, he, hlj⟩ := hrel
      by_cases hlt : j < nextF l kn true
      · obtain ⟨b1, b2⟩ := step_in (by rw [hlen.out]; omega) hj1 hlt
        have HN := Lib.hid (wnext_ok (k := j) (big := false) hlj h1 (by omega))
        go_wp2_with fail
        refine HN.out.mono ?_
        rintro e w4 ⟨rfl, he4⟩
        clear HN
        go_wp2_with fail
        go_roundw
        case rel => exact ⟨nextF l j false, by omega, b2, by go_num, he.trans he4, hlj.ext he4⟩
        case measure => simp [intOf]; omega
      · have e1 : j = nextF l kn true := by omega
        have b0 : ((j : Int) == (nextF l kn true : Int)) = true := by simp; omega
        go_wp2_with fail
        go_ret
        exact ⟨rfl, he⟩
end Go.Proofs.Ytkjlgfokgpdliaa
