/-
  slices.Equal at []int.
-/
import Derived.Test.YtdkjkcegchohfaaLibA
namespace Go.Proofs.Ytdkjkcegchohfaa
open Go.RowKit
set_option linter.unusedVariables false
set_option linter.unusedSimpArgs false

set_option maxRecDepth 20000 in
set_option maxHeartbeats 1000000 in
theorem equal_ok {A B : Option Addr} {n c m d : Nat} {l l' : List Int} {w : World} (hl : Ints w A n c l) (hl' : Ints w B m d l') :
    Calls Try.prog 13 #[.slice A n c, .slice B m d] w fun e w' => e = .returned (.bool (eqB l l')) ∧ ∃ k, w' = w.drewN k := by
  have h1 := hl.ncap
  have h2 := hl.nmax
  have h3 := hl'.ncap
  have h4 := hl'.nmax
  have e1 := Lib.hid hl.len
  have e2 := Lib.hid hl'.len
  unfold maxLen at h2 h4
  by_cases hnm : n = m
  · subst hnm
    have hne : ((n : Int) != (n : Int)) = false := by simp
    go_enter Try.func13, Try.ntmps13
    go_wp2_with fail
    go_loopw [13] (fun i wr => ∃ k : Nat, k ≤ n ∧ i = .int .i64 k ∧ Hid (l.take k = l'.take k) ∧ ∃ q, wr = w.drewN q) (fun i _ => n - (intOf i).toNat)
    case atStart => exact ⟨0, by omega, rfl, rfl, 0, rfl⟩
    case round =>
      obtain ⟨k, hk, rfl, ht, q, rfl⟩ := hrel
      by_cases hlt : k < n
      · obtain ⟨a1, rfl, hc1⟩ := hl.at_ hlt
        obtain ⟨a2, rfl, hc2⟩ := hl'.at_ hlt
        have c1 := hc1 k hlt
        have c2 := hc2 k hlt
        clear hc1 hc2
        by_cases heq : gI l k = gI l' k
        · have b1 : (gI l k != gI l' k) = false := by simpa using heq
          have HN := Lib.hid heq
          clear heq
          go_wp2_with fail
          go_quiet (fail)
          go_wp2_with fail
          go_roundw
          case rel => exact ⟨k + 1, by omega, by go_num, take_eq_succ e1.out e2.out hlt ht.out HN.out, q + nq, rfl⟩
          case measure => simp [intOf]; omega
        · have b1 : (gI l k != gI l' k) = true := by simpa using heq
          have HN := Lib.hid heq
          clear heq
          go_wp2_with fail
          go_quiet (fail)
          go_wp2_with fail
          go_ret
          exact ⟨ret_bool (eqB_false.2 (fun e => HN.out (by rw [e]))).symm, _, drew2 _ _ _⟩
      · obtain rfl : k = n := by omega
        go_wp2_with fail
        go_ret
        exact ⟨ret_bool (eqB_true.2 (take_eq_all e1.out e2.out ht.out)).symm, _, rfl⟩
  · have hne : ((n : Int) != (m : Int)) = true := by simp; omega
    have hf : eqB l l' = false := eqB_false.2 (fun e => hnm (by rw [← e1.out, ← e2.out, e]))
    go_enter Try.func13, Try.ntmps13
    go_wp2_with fail
    go_ret
    exact ⟨ret_bool hf.symm, 0, rfl⟩
theorem equal_ext {A B : Option Addr} {n c m d : Nat} {l l' : List Int} {w : World} (hl : Ints w A n c l) (hl' : Ints w B m d l') :
    Calls Try.prog 13 #[.slice A n c, .slice B m d] w fun e w' => e = .returned (.bool (eqB l l')) ∧ Ext w w' :=
  (equal_ok hl hl').mono fun e w' ⟨h1, k, h2⟩ => ⟨h1, by rw [h2]; exact Ext.drewN _ _⟩
end Go.Proofs.Ytdkjkcegchohfaa
