/-
  slices.ContainsFunc with EditTyped's test; what is typed, in plain words.
-/
import Derived.Test.YthphlghblmindaaEdT
import Derived.Test.YthphlghblmindaaTermX
import Derived.Test.YthphlghblmindaaRep
import Derived.Test.YthphlghblmindaaConcB
namespace Go.Proofs.Ythphlghblmindaa
open Go.RowKit
set_option linter.unusedVariables false
set_option linter.unusedSimpArgs false

set_option maxHeartbeats 4000000 in
theorem Echk1_ok {c : Int} {w : World} (h : goodC c) : Calls Try.prog 35 #[.int .i64 c] w fun e w' => e = .returned (.bool false) ∧ w' = w := by
  obtain ⟨h1, h2⟩ := h
  have h3 : (c == 127) = false := by simpa using h2
  have h4 : decide (c < 32) = false := by simpa using h1
  clear h2
  go_enter Try.func35, Try.ntmps35
  go_wp2_with fail
  go_ret
  exact ⟨rfl, rfl⟩

theorem Echk1_bad {c : Int} {w : World} (h : ¬ goodC c) : Calls Try.prog 35 #[.int .i64 c] w fun e w' => e = .returned (.bool true) ∧ w' = w := by
  by_cases h1 : c < 32
  · clear h
    go_enter Try.func35, Try.ntmps35
    go_wp2_with fail
    go_ret
    exact ⟨rfl, rfl⟩
  · have h2 : c = 127 := by
      unfold goodC at h
      by_cases h2 : c = 127
      · exact h2
      · exact absurd ⟨by omega, h2⟩ h
    subst h2
    clear h h1
    go_enter Try.func35, Try.ntmps35
    go_wp2_with fail
    go_ret
    exact ⟨rfl, rfl⟩
set_option maxHeartbeats 1000000 in
theorem Eidxf_ok {A : Option Addr} {n c : Nat} {l : List Int} {w : World} (hl : Ints w A n c l) (hg : ∀ k, k < n → goodC (gI l k)) :
    Calls Try.prog 59 #[.slice A n c, .func (.func 35) #[] #[]] w fun e w' => e = .returned (.int .i64 (-1)) ∧ w' = w := by
  have h1 := hl.ncap
  have h2 := hl.nmax
  unfold maxLen at h2
  have HG := Lib.hid hg
  clear hg
  go_enter Try.func59, Try.ntmps59
  go_wp2_with fail
  go_loopw [8] (fun i wr => ∃ k : Nat, k ≤ n ∧ i = .int .i64 k ∧ wr = w) (fun i _ => n - (intOf i).toNat)
  case atStart => exact ⟨0, by omega, rfl, rfl⟩
  case round =>
    obtain ⟨k, hk, rfl, rfl⟩ := hrel
    by_cases hlt : k < n
    · obtain ⟨a1, rfl, hc1⟩ := hl.at_ hlt
      have c1 := hc1 k hlt
      clear hc1
      go_wp2_with fail
      refine (Echk1_ok (HG.out k hlt)).mono ?_
      rintro e w1 ⟨rfl, rfl⟩
      go_wp2_with fail
      go_roundw
      case rel => exact ⟨k + 1, by omega, by go_num, trivial⟩
      case measure => simp [intOf]; omega
    · obtain rfl : k = n := by omega
      go_wp2_with fail
      go_ret
      exact ⟨rfl, rfl⟩
set_option maxHeartbeats 1000000 in
theorem Econtf_ok {A : Option Addr} {n c : Nat} {l : List Int} {w : World} (hl : Ints w A n c l) (hg : ∀ k, k < n → goodC (gI l k)) :
    Calls Try.prog 34 #[.slice A n c, .func (.func 35) #[] #[]] w fun e w' => e = .returned (.bool false) ∧ w' = w := by
  have h1 := hl.ncap
  have h2 := hl.nmax
  unfold maxLen at h2
  have HG := Lib.hid hg
  clear hg
  go_enter Try.func34, Try.ntmps34
  go_wp2_with fail
  refine (Eidxf_ok hl HG.out).mono ?_
  rintro e w1 ⟨rfl, rfl⟩
  go_wp2_with fail
  go_ret
  exact ⟨rfl, rfl⟩

set_option maxRecDepth 20000 in
set_option maxHeartbeats 2000000 in
theorem Eidxf_bad {A : Option Addr} {n c : Nat} {l : List Int} {w : World} (hl : Ints w A n c l) (hg : ¬ ∀ k, k < n → goodC (gI l k)) :
    Calls Try.prog 59 #[.slice A n c, .func (.func 35) #[] #[]] w fun e w' => (∃ k : Nat, e = .returned (.int .i64 k)) ∧ w' = w := by
  have h1 := hl.ncap
  have h2 := hl.nmax
  unfold maxLen at h2
  have HG := Lib.hid hg
  clear hg
  go_enter Try.func59, Try.ntmps59
  go_wp2_with fail
  go_loopw [8] (fun i wr => ∃ k : Nat, k ≤ n ∧ i = .int .i64 k ∧ Hid (∀ j, j < k → goodC (gI l j)) ∧ wr = w) (fun i _ => n - (intOf i).toNat)
  case atStart => exact ⟨0, by omega, rfl, Lib.hid (fun j h => absurd h (by omega)), rfl⟩
  case round =>
    obtain ⟨k, hk, rfl, HK, rfl⟩ := hrel
    by_cases hlt : k < n
    · obtain ⟨a1, rfl, hc1⟩ := hl.at_ hlt
      have c1 := hc1 k hlt
      clear hc1
      by_cases hz : goodC (gI l k)
      · have HN : Hid (∀ j, j < k + 1 → goodC (gI l j)) := Lib.hid (fun j hj => by
          rcases Nat.lt_or_ge j k with h3 | h3
          · exact HK.out j h3
          · rw [show j = k by omega]; exact hz)
        go_wp2_with fail
        refine (Echk1_ok hz).mono ?_
        rintro e w1 ⟨rfl, rfl⟩
        clear hz
        go_wp2_with fail
        go_roundw
        case rel => exact ⟨k + 1, by omega, by go_num, HN, trivial⟩
        case measure => simp [intOf]; omega
      · go_wp2_with fail
        refine (Echk1_bad hz).mono ?_
        rintro e w1 ⟨rfl, rfl⟩
        clear hz
        go_wp2_with fail
        go_ret
        exact ⟨⟨k, rfl⟩, rfl⟩
    · obtain rfl : k = n := by omega
      exact absurd HK.out HG.out
set_option maxRecDepth 20000 in
set_option maxHeartbeats 1000000 in
theorem Econtf_bad {A : Option Addr} {n c : Nat} {l : List Int} {w : World} (hl : Ints w A n c l) (hg : ¬ ∀ k, k < n → goodC (gI l k)) :
    Calls Try.prog 34 #[.slice A n c, .func (.func 35) #[] #[]] w fun e w' => e = .returned (.bool true) ∧ w' = w := by
  have HC := Lib.hid (Eidxf_bad hl hg)
  clear hg
  go_enter Try.func34, Try.ntmps34
  go_wp2_with fail
  refine HC.out.mono ?_
  rintro e w1 ⟨⟨k, rfl⟩, rfl⟩
  clear HC
  have hk : decide ((0 : Int) ≤ (k : Int)) = true := by simp
  go_wp2_with fail
  go_ret
  exact ⟨by first | rfl | simp, rfl⟩


/-- What stands when k characters are typed. -/
def typS (l t : List Int) (a k : Nat) : List Int := l.take a ++ t.take k ++ l.drop a
theorem typS_zero (l t : List Int) (a : Nat) : typS l t a 0 = l := by unfold typS; simp
theorem typS_len {l t : List Int} {a k : Nat} (ha : a ≤ l.length) (hk : k ≤ t.length) : (typS l t a k).length = l.length + k := by
  unfold typS; simp; omega
theorem typS_ins {l t : List Int} {a k : Nat} (ha : a ≤ l.length) (hk : k < t.length) : insL (typS l t a k) (a + k) (gI t k) = typS l t a (k + 1) := by
  have h1 : (l.take a ++ t.take k).length = a + k := by simp; omega
  unfold insL typS
  rw [List.take_append_of_le_length (by omega), List.take_of_length_le (by omega), List.drop_append_of_le_length (by omega), List.drop_of_length_le (by omega), List.nil_append, List.take_succ_eq_append_getElem hk]
  simp [gI, hk]
theorem typS_del {l t : List Int} {a k : Nat} (ha : a ≤ l.length) (hk : k < t.length) : (typS l t a (k + 1)).take (a + k) ++ (typS l t a (k + 1)).drop (a + k + 1) = typS l t a k := by
  have h1 : (l.take a ++ t.take (k + 1)).length = a + k + 1 := by simp; omega
  have h2 : (l.take a ++ t.take k).length = a + k := by simp; omega
  have e1 : typS l t a (k + 1) = (l.take a ++ t.take k) ++ ([gI t k] ++ l.drop a) := by
    have hg : gI t k = t[k] := by simp [gI, hk]
    unfold typS
    rw [List.take_succ_eq_append_getElem hk, hg]
    simp only [List.append_assoc]
  have e2 : (typS l t a (k + 1)).drop (a + k + 1) = l.drop a := by unfold typS; exact List.drop_left' h1
  rw [e2, e1, List.take_left' h2]
  rfl
theorem typS_all {l t : List Int} {a : Nat} : typS l t a t.length = l.take a ++ t ++ l.drop a := by unfold typS; rw [List.take_of_length_le (Nat.le_refl _)]

/-- typed of characters where there is room. -/
theorem typed_in {w : World} {A K : Option Addr} {n c m d a : Nat} {l t : List Int} (hl : Ints w A n c l) (hA : A = none → c = 0) (ht : Ints w K m d t) (ha : a ≤ n) (hg : ∀ k, k < m → goodC (gI t k)) (hr : n + m ≤ 200) :
    Calls Try.prog 33 #[.agg #[.slice A n c, .int .i64 (a : Int)], .slice K m d] w (TypedIs w m (l.take a ++ t ++ l.drop a) (a + m)) := by
  have h := typed_run (typS l t a) (fun k => a + k) hl hA ht ⟨typS_zero _ _ _, rfl⟩ (fun k wq B q r hk hi hB => by
    have hq : (typS l t a k).length = q := hi.len
    rw [typS_len (by rw [hl.len]; exact ha) (by rw [ht.len]; omega), hl.len] at hq
    have h2 := key_ins hi hB (a := a + k) (by omega) (by omega) (hg k hk).1 (hg k hk).2
    rw [typS_ins (by rw [hl.len]; exact ha) (by rw [ht.len]; exact hk)] at h2
    exact h2)
  have e : typS l t a m = l.take a ++ t ++ l.drop a := by rw [← ht.len]; exact typS_all
  rw [e] at h
  exact h
/-- And where there is none. -/
theorem typed_over {w : World} {A K : Option Addr} {n c m d a : Nat} {l t : List Int} (hl : Ints w A n c l) (hA : A = none → c = 0) (ht : Ints w K m d t) (ha : a ≤ n) (hg : ∀ k, k < m → goodC (gI t k)) (hr : 200 < n + m) (hm : 0 < m) :
    Calls Try.prog 33 #[.agg #[.slice A n c, .int .i64 (a : Int)], .slice K m d] w (TypedNo w) := by
  by_cases hn : n ≤ 200
  · refine typed_stop (j := 200 - n) (typS l t a) (fun k => a + k) hl hA ht ⟨typS_zero _ _ _, rfl⟩ (by omega) (fun k wq B q r hk hi hB => ?_) (fun wq B q r hi => ?_)
    · have hq : (typS l t a k).length = q := hi.len
      rw [typS_len (by rw [hl.len]; exact ha) (by rw [ht.len]; omega), hl.len] at hq
      have h2 := key_ins hi hB (a := a + k) (by omega) (by omega) (hg k (by omega)).1 (hg k (by omega)).2
      rw [typS_ins (by rw [hl.len]; exact ha) (by rw [ht.len]; omega)] at h2
      exact h2
    · have hq : (typS l t a (200 - n)).length = q := hi.len
      rw [typS_len (by rw [hl.len]; exact ha) (by rw [ht.len]; omega), hl.len] at hq
      exact key_full hi.ncap hi.nmax (by omega) (by omega) (hg _ (by omega)).1 (hg _ (by omega)).2
  · refine typed_stop (j := 0) (typS l t a) (fun k => a + k) hl hA ht ⟨typS_zero _ _ _, rfl⟩ hm (fun k wq B q r hk => absurd hk (by omega)) (fun wq B q r hi => ?_)
    have hq : (typS l t a 0).length = q := hi.len
    rw [typS_zero, hl.len] at hq
    exact key_large hi.ncap hi.nmax (by omega)
/-- typed of backspaces. -/
theorem typed_back {w : World} {A K : Option Addr} {n c m d a : Nat} {l t : List Int} (hl : Ints w A n c (l.take a ++ t ++ l.drop a)) (hA : A = none → c = 0) (hk : Ints w K m d (List.replicate m 8)) (hm : t.length = m) (ha : a ≤ l.length) (hr : n ≤ 200) :
    Calls Try.prog 33 #[.agg #[.slice A n c, .int .i64 ((a + m : Nat) : Int)], .slice K m d] w (TypedIs w m l a) := by
  have h := typed_run (a := a + m) (fun k => typS l t a (m - k)) (fun k => a + (m - k)) hl hA hk ⟨by simp only [Nat.sub_zero]; rw [← hm]; exact typS_all, by simp⟩ (fun k wq B q r hkm hi hB => by
    have hi : Ints wq B q r (typS l t a (m - k)) := hi
    have hq : (typS l t a (m - k)).length = q := hi.len
    rw [typS_len ha (by omega)] at hq
    have hn : l.length + m = n := by
      have := hl.len
      simp only [List.length_append, List.length_take, List.length_drop] at this
      omega
    have e8 : gI (List.replicate m (8 : Int)) k = 8 := by unfold gI; simp [hkm]
    rw [e8]
    have h2 := key_del hi hB (a := a + (m - k)) (b := a + (m - (k + 1))) (by omega) (by omega) (by omega)
    have e2 := typS_del (l := l) (t := t) (a := a) (k := m - (k + 1)) ha (by omega)
    rw [show m - (k + 1) + 1 = m - k by omega, show a + (m - (k + 1)) + 1 = a + (m - k) by omega] at e2
    rw [e2] at h2
    exact h2)
  simp only [Nat.sub_self, Nat.add_zero] at h
  rw [typS_zero] at h
  exact h
end Go.Proofs.Ythphlghblmindaa
