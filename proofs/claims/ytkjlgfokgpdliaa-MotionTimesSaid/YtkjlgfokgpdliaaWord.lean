/-
  The walks of package word.
-/
import Derived.Test.YtkjlgfokgpdliaaWordM
import Derived.Test.YtkjlgfokgpdliaaLib
namespace Go.Proofs.Ytkjlgfokgpdliaa
open Go.RowKit
set_option linter.unusedVariables false

theorem kindF_blank {c : Int} {big : Bool} (h : c = 32 ∨ c = 9) : kindF c big = 0 := by unfold kindF; rw [if_pos h]
theorem kindF_word {c : Int} {big : Bool} (h : ¬ (c = 32 ∨ c = 9)) (h2 : big = true ∨ (97 ≤ c ∧ c ≤ 122) ∨ (65 ≤ c ∧ c ≤ 90) ∨ (48 ≤ c ∧ c ≤ 57) ∨ c = 95 ∨ 128 ≤ c) : kindF c big = 1 := by unfold kindF; rw [if_neg h, if_pos h2]
theorem kindF_sign {c : Int} {big : Bool} (h : ¬ (c = 32 ∨ c = 9)) (h2 : ¬ (big = true ∨ (97 ≤ c ∧ c ≤ 122) ∨ (65 ≤ c ∧ c ≤ 90) ∨ (48 ≤ c ∧ c ≤ 57) ∨ c = 95 ∨ 128 ≤ c)) : kindF c big = 2 := by unfold kindF; rw [if_neg h, if_neg h2]

set_option maxHeartbeats 4000000 in
theorem wkind_ok (c : Int) (big : Bool) (w : World) : Calls Try.prog 15 #[.int .i64 c, .bool big] w fun e w' => e = .returned (.int .i64 (kindF c big)) ∧ w' = w := by
  by_cases h1 : c = 32
  · subst h1
    rw [kindF_blank (.inl rfl)]
    go_enter Try.func15, Try.ntmps15
    go_wp2_with fail
    go_ret
    exact ⟨rfl, rfl⟩
  by_cases h2 : c = 9
  · subst h2
    rw [kindF_blank (.inr rfl)]
    go_enter Try.func15, Try.ntmps15
    go_wp2_with fail
    go_ret
    exact ⟨rfl, rfl⟩
  have b1 : (c == 32) = false := by simpa using h1
  have b2 : (c == 9) = false := by simpa using h2
  have HN : Hid (¬ (c = 32 ∨ c = 9)) := Lib.hid (by omega)
  clear h1 h2
  rcases big with _ | _
  · by_cases h3 : c = 95
    · subst h3
      rw [kindF_word HN.out (by omega)]
      go_enter Try.func15, Try.ntmps15
      go_wp2_with fail
      go_ret
      exact ⟨rfl, rfl⟩
    have b3 : (c == 95) = false := by simpa using h3
    have HF : Hid (∀ v, v = kindF c false → v = kindF c false) := Lib.hid (fun _ h => h)
    have H3 := Lib.hid h3
    clear h3
    go_enter Try.func15, Try.ntmps15
    go_wp2_with fail
    all_goals
      go_ret
      have h3 := H3.out
      refine ⟨ret_int ?_, rfl⟩
      first
        | exact (kindF_word HN.out (by omega)).symm
        | exact (kindF_sign HN.out (by simp; omega)).symm
  · rw [kindF_word HN.out (.inl rfl)]
    go_enter Try.func15, Try.ntmps15
    go_wp2_with fail
    go_ret
    exact ⟨rfl, rfl⟩

theorem wkind_quiet (c : Int) (big : Bool) (w : World) (n : Nat) : Calls Try.prog 15 #[.int .i64 c, .bool big] (w.drewN n) fun e w'' => e = .returned (.int .i64 (kindF c big)) ∧ ∃ m, w'' = w.drewN m :=
  (wkind_ok c big _).mono fun _ _ ⟨h1, h2⟩ => ⟨h1, n, h2⟩

set_option maxHeartbeats 1000000 in
theorem walkerKind_ok {l : List Int} {A : Option Addr} {n c : Nat} {big : Bool} {w : World} (hl : Ints w A n c l) (k : Int) (h1 : -4611686018427387904 ≤ k) (h2 : k ≤ 4611686018427387904) :
    Calls Try.prog 25 #[.agg #[.slice A n c, .bool big], .int .i64 k] w fun e w' => e = .returned (.int .i64 (kindAt l big k)) ∧ Ext w w' := by
  have hlen := Lib.hid hl.len
  have hnc := hl.ncap
  have hcm := hl.nmax
  unfold maxLen at hcm
  by_cases hin : 0 ≤ k ∧ k < n
  · obtain ⟨kn, rfl⟩ := Int.eq_ofNat_of_zero_le hin.1
    obtain ⟨ad, rfl, hc⟩ := hl.at_ (k := kn) (by omega)
    have hk : Hid (kindAt l big kn = kindF (gI l kn) big) := kindAt_in (by rw [hlen.out]; omega)
    have hkn : kn < n := by omega
    have hck := (Ext.alloc w (.cells #[.slice (some ad) n c, .bool big] 48)).cell (hc kn hkn)
    clear hc hin
    rw [hk.out]
    go_enter Try.func25, Try.ntmps25
    go_wp2_with fail
    go_quiet ((go_at_call 15; exact wkind_quiet _ _ _ _))
    go_wp2_with fail
    go_ret
    exact ⟨rfl, (Ext.alloc _ _).to_drewN _⟩
  · have hk : Hid (kindAt l big k = -1) := kindAt_out (by rw [hlen.out]; omega)
    rw [hk.out]
    go_enter Try.func25, Try.ntmps25
    go_wp2_with fail
    all_goals
      go_ret
      exact ⟨rfl, Ext.alloc _ _⟩

theorem kindAt_len {l : List Int} {big : Bool} {k kind : Int} (h : kindAt l big k = kind) (h0 : 0 ≤ kind) : 0 ≤ k ∧ k < l.length := by
  unfold kindAt at h
  split at h
  · assumption
  · omega

set_option maxHeartbeats 1000000 in
theorem overR_ok {l : List Int} {A : Option Addr} {n c : Nat} {big : Bool} {w : World} (hl : Ints w A n c l) (k : Nat) (kind : Int) (h0 : 0 ≤ kind) (h1 : k ≤ n + 1) (hn : n ≤ 4096) :
    Calls Try.prog 26 #[.agg #[.slice A n c, .bool big], .int .i64 k, .int .i64 1, .int .i64 kind] w fun e w' => e = .returned (.int .i64 (runR l big kind k)) ∧ Ext w w' := by
  have hlen := Lib.hid hl.len
  have hb0 := Blk.new w 48 #[.slice A n c, .bool big]
  go_enter Try.func26, Try.ntmps26
  go_wp2_with fail
  go_loopw [1] (fun i wr => ∃ j : Nat, k ≤ j ∧ j ≤ n + 1 ∧ i = .int .i64 j ∧ Hid (∀ i : Nat, k ≤ i → i < j → kindAt l big i = kind) ∧ Blk wr w.heap.size 48 #[.slice A n c, .bool big] ∧ Ext w wr) (fun i _ => n + 1 - (intOf i).toNat)
  case atStart => exact ⟨k, Nat.le_refl _, h1, rfl, fun i h1 h2 => absurd h2 (by omega), hb0, Ext.alloc _ _⟩
  case round =>
    clear hb0
    obtain ⟨j, hj, hj2, rfl, hall, hb, he⟩ := hrel
    have c0 := hb.cell 0
    have c1 := hb.cell 1
    simp only [List.getElem?_toArray, List.getElem?_cons_zero, List.getElem?_cons_succ] at c0 c1
    have HK := Lib.hid (walkerKind_ok (big := big) (hl.ext he) j (by omega) (by omega))
    go_wp2_with fail
    refine HK.out.mono ?_
    rintro e w1 ⟨rfl, he1⟩
    clear HK c0 c1
    by_cases heq : kindAt l big j = kind
    · have b1 : (kindAt l big j == kind) = true := by simpa using heq
      have hlt := (kindAt_len heq h0).2
      rw [hlen.out] at hlt
      have HQ := Lib.hid heq
      clear heq
      go_wp2_with fail
      go_roundw
      case rel => exact ⟨j + 1, by omega, by omega, by go_num, fun i h1 h2 => by
        rcases Nat.lt_or_ge i j with h3 | h3
        · exact hall.out i h1 h3
        · obtain rfl : i = j := by omega
          exact HQ.out, hb.ext he1, he.trans he1⟩
      case measure => simp [intOf]; omega
    · have b1 : (kindAt l big j == kind) = false := by simpa using heq
      have HQ := Lib.hid heq
      clear heq
      go_wp2_with fail
      go_ret
      exact ⟨ret_int (by rw [runR_eq h0 hj hall.out HQ.out]), he.trans he1⟩

set_option maxHeartbeats 1000000 in
theorem overL_ok {l : List Int} {A : Option Addr} {n c : Nat} {big : Bool} {w : World} (hl : Ints w A n c l) (m : Nat) (kind : Int) (h0 : 0 ≤ kind) (h1 : m ≤ n + 1) (hn : n ≤ 4096) :
    Calls Try.prog 26 #[.agg #[.slice A n c, .bool big], .int .i64 ((m : Int) - 1), .int .i64 (-1), .int .i64 kind] w fun e w' => e = .returned (.int .i64 ((runL l big kind m : Int) - 1)) ∧ Ext w w' := by
  have hlen := Lib.hid hl.len
  have hb0 := Blk.new w 48 #[.slice A n c, .bool big]
  go_enter Try.func26, Try.ntmps26
  go_wp2_with fail
  go_loopw [1] (fun i wr => ∃ j : Nat, j ≤ m ∧ i = .int .i64 ((j : Int) - 1) ∧ Hid (∀ i : Nat, j ≤ i → i < m → kindAt l big i = kind) ∧ Blk wr w.heap.size 48 #[.slice A n c, .bool big] ∧ Ext w wr) (fun i _ => (intOf i + 1).toNat)
  case atStart => exact ⟨m, Nat.le_refl _, rfl, fun i h1 h2 => absurd h2 (by omega), hb0, Ext.alloc _ _⟩
  case round =>
    clear hb0
    obtain ⟨j, hj, rfl, hall, hb, he⟩ := hrel
    have c0 := hb.cell 0
    have c1 := hb.cell 1
    simp only [List.getElem?_toArray, List.getElem?_cons_zero, List.getElem?_cons_succ] at c0 c1
    have HK := Lib.hid (walkerKind_ok (big := big) (hl.ext he) ((j : Int) - 1) (by omega) (by omega))
    go_wp2_with fail
    refine HK.out.mono ?_
    rintro e w1 ⟨rfl, he1⟩
    clear HK c0 c1
    by_cases heq : kindAt l big ((j : Int) - 1) = kind
    · have b1 : (kindAt l big ((j : Int) - 1) == kind) = true := by simpa using heq
      have hlt := (kindAt_len heq h0).1
      have HQ := Lib.hid heq
      clear heq
      go_wp2_with fail
      go_roundw
      case rel => exact ⟨j - 1, by omega, by
        congr 1; omega, fun i h1 h2 => by
        rcases Nat.lt_or_ge i j with h3 | h3
        · obtain rfl : i = j - 1 := by omega
          rw [← HQ.out]; congr 1; omega
        · exact hall.out i h3 h2, hb.ext he1, he.trans he1⟩
      case measure => simp [intOf]; omega
    · have b1 : (kindAt l big ((j : Int) - 1) == kind) = false := by simpa using heq
      have HQ := Lib.hid heq
      clear heq
      go_wp2_with fail
      go_ret
      exact ⟨ret_int (by rw [runL_eq hj hall.out (.inr HQ.out)]), he.trans he1⟩

set_option maxHeartbeats 400000 in
theorem wright_ok {A : Option Addr} {n c : Nat} {k : Int} {w : World} (hnc : n ≤ c) (hcm : c ≤ maxLen) :
    Calls Try.prog 24 #[.slice A n c, .int .i64 k] w fun e w' => e = .returned (.int .i64 (if n > 4096 then 2 else if k < 0 ∨ k > n then 1 else 0)) ∧ w' = w := by
  unfold maxLen at hcm
  have HF : Hid (∀ v : Int, (n > 4096 → v = 2) → (n ≤ 4096 → (k < 0 ∨ k > n) → v = 1) → (n ≤ 4096 → 0 ≤ k → k ≤ n → v = 0) → v = (if n > 4096 then 2 else if k < 0 ∨ k > n then 1 else 0)) := Lib.hid (fun v h1 h2 h3 => by
    split
    · exact h1 ‹_›
    · split
      · exact h2 (by omega) ‹_›
      · exact h3 (by omega) (by omega) (by omega))
  go_enter Try.func24, Try.ntmps24
  go_wp2_with fail
  all_goals (go_ret; exact ⟨rfl, rfl⟩)

/-- The line and the place are no good. -/
def wbad (n : Nat) (k : Int) : Prop := n > 4096 ∨ k < 0 ∨ k > n

set_option maxHeartbeats 400000 in
theorem wnext_bad {A : Option Addr} {n c : Nat} {k : Int} {big : Bool} {w : World} (hnc : n ≤ c) (hcm : c ≤ maxLen) (h : wbad n k) :
    Calls Try.prog 10 #[.slice A n c, .int .i64 k, .bool big] w fun e w' => e = .returned (.tuple #[.int .i64 0, .int .i64 (if n > 4096 then 2 else 1)]) ∧ w' = w := by
  have HR := Lib.hid (@wright_ok A n c k w hnc hcm)
  have hv : (if n > 4096 then (2 : Int) else if k < 0 ∨ k > n then 1 else 0) = (if n > 4096 then 2 else 1) := by
    unfold wbad at h
    split
    · rfl
    · rw [if_pos (by omega)]
  rw [hv] at HR
  have hne : ((if n > 4096 then (2 : Int) else 1) != 0) = true := by split <;> rfl
  revert HR hne
  generalize (if n > 4096 then (2 : Int) else 1) = v
  intro HR hne
  clear hv h
  unfold maxLen at hcm
  go_enter Try.func10, Try.ntmps10
  go_wp2_with fail
  refine HR.out.mono ?_
  rintro e w1 ⟨rfl, rfl⟩
  clear HR
  go_wp2_with fail
  go_ret2
  exact ⟨rfl, rfl⟩

set_option maxHeartbeats 1000000 in
theorem wnext_ok {l : List Int} {A : Option Addr} {n c : Nat} {k : Nat} {big : Bool} {w : World} (hl : Ints w A n c l) (hn : n ≤ 4096) (hk : k ≤ n) :
    Calls Try.prog 10 #[.slice A n c, .int .i64 k, .bool big] w fun e w' => e = .returned (.tuple #[.int .i64 (nextF l k big), .int .i64 0]) ∧ Ext w w' := by
  have hnc := hl.ncap
  have hcm := hl.nmax
  have hlen := Lib.hid hl.len
  have HR := Lib.hid (@wright_ok A n c k w hnc hcm)
  have hv : (if n > 4096 then (2 : Int) else if (k : Int) < 0 ∨ (k : Int) > n then 1 else 0) = 0 := by
    rw [if_neg (by omega), if_neg (by omega)]
  rw [hv] at HR
  clear hv
  unfold maxLen at hcm
  go_enter Try.func10, Try.ntmps10
  go_wp2_with fail
  refine HR.out.mono ?_
  rintro e w1 ⟨rfl, rfl⟩
  clear HR
  have HK := Lib.hid (walkerKind_ok (big := big) (hl.ext (Ext.alloc w1 (.cells #[.slice A n c, .bool big] 48))) k (by omega) (by omega))
  go_wp2_with fail
  refine HK.out.mono ?_
  rintro e w2 ⟨rfl, he2⟩
  clear HK
  have hb := (Blk.new w1 48 #[.slice A n c, .bool big]).ext he2
  have he := (Ext.alloc w1 (.cells #[.slice A n c, .bool big] 48)).trans he2
  have c0 := hb.cell 0
  have c1 := hb.cell 1
  simp only [List.getElem?_toArray, List.getElem?_cons_zero, List.getElem?_cons_succ] at c0 c1
  by_cases hp : 0 < kindAt l big k
  · have hlt := (kindAt_len (k := k) rfl (show 0 ≤ kindAt l big k by omega)).2
    rw [hlen.out] at hlt
    obtain ⟨r1, -, -, r4⟩ := runR_spec (l := l) (big := big) (kind := kindAt l big k) (by omega) k
    rw [hlen.out] at r4
    have hF : Hid (nextF l k big = runR l big 0 (runR l big (kindAt l big k) k)) := Lib.hid (by unfold nextF; rw [if_pos hp])
    have HO := Lib.hid (overR_ok (big := big) (hl.ext he) k (kindAt l big k) (by omega) (by omega) hn)
    go_wp2_with fail
    refine HO.out.mono ?_
    rintro e w3 ⟨rfl, he3⟩
    have c2 := he3.cell c0
    have c3 := he3.cell c1
    have HO2 := Lib.hid (overR_ok (big := big) (hl.ext (he.trans he3)) (runR l big (kindAt l big k) k) 0 (Int.le_refl _) (by omega) hn)
    clear HO c0 c1
    go_wp2_with fail
    refine HO2.out.mono ?_
    rintro e w4 ⟨rfl, he4⟩
    clear HO2 c2 c3
    go_wp2_with fail
    go_ret2
    exact ⟨by rw [hF.out]; rfl, (he.trans he3).trans he4⟩
  · have hF : Hid (nextF l k big = runR l big 0 k) := Lib.hid (by unfold nextF; rw [if_neg hp])
    have HO := Lib.hid (overR_ok (big := big) (hl.ext he) k 0 (Int.le_refl _) (by omega) hn)
    go_wp2_with fail
    refine HO.out.mono ?_
    rintro e w3 ⟨rfl, he3⟩
    clear HO c0 c1
    go_wp2_with fail
    go_ret2
    exact ⟨by rw [hF.out]; rfl, he.trans he3⟩
end Go.Proofs.Ytkjlgfokgpdliaa
