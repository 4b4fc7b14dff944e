/-
  Characters that a row of a terminal may hold; the walk of term.Check where all is right.
-/
import Derived.Test.YthphlghblmindaaLib
namespace Go.Proofs.Ythphlghblmindaa
open Go.RowKit
set_option linter.unusedVariables false
set_option linter.unusedSimpArgs false

def goodC (c : Int) : Prop := 32 ≤ c ∧ c ≠ 127
set_option maxHeartbeats 4000000 in
theorem chk1_ok {c : Int} {w : World} (h : goodC c) : Calls Try.prog 63 #[.int .i64 c] w fun e w' => e = .returned (.bool false) ∧ w' = w := by
  obtain ⟨h1, h2⟩ := h
  have h3 : (c == 127) = false := by simpa using h2
  have h4 : decide (c < 32) = false := by simpa using h1
  clear h2
  go_enter Try.func63, Try.ntmps63
  go_wp2_with fail
  go_ret
  exact ⟨rfl, rfl⟩

set_option maxHeartbeats 1000000 in
theorem idxf_ok {A : Option Addr} {n c : Nat} {l : List Int} {w : World} (hl : Ints w A n c l) (hg : ∀ k, k < n → goodC (gI l k)) :
    Calls Try.prog 59 #[.slice A n c, .func (.func 63) #[] #[]] w fun e w' => e = .returned (.int .i64 (-1)) ∧ w' = w := by
  have h1 := hl.ncap
  have h2 := hl.nmax
  unfold maxLen at h2
  have HG := Lib.hid hg
  clear hg
  go_enter Try.func59, Try.ntmps59
  go_wp2_with fail
  go_loopw [8] (fun i wr => ∃ k : Nat, k ≤ n ∧ i = .int .i64 k ∧ wr = w) (fun i _ => n - (intOf i).toNat)
  case atStart => exact ⟨0, by omega, rfl, rfl⟩
  case round =>
    obtain ⟨k, hk, rfl, rfl⟩ := hrel
    by_cases hlt : k < n
    · obtain ⟨a1, rfl, hc1⟩ := hl.at_ hlt
      have c1 := hc1 k hlt
      clear hc1
      go_wp2_with fail
      refine (chk1_ok (HG.out k hlt)).mono ?_
      rintro e w1 ⟨rfl, rfl⟩
      go_wp2_with fail
      go_roundw
      case rel => exact ⟨k + 1, by omega, by go_num, trivial⟩
      case measure => simp [intOf]; omega
    · obtain rfl : k = n := by omega
      go_wp2_with fail
      go_ret
      exact ⟨rfl, rfl⟩
set_option maxHeartbeats 1000000 in
theorem contf_ok {A : Option Addr} {n c : Nat} {l : List Int} {w : World} (hl : Ints w A n c l) (hg : ∀ k, k < n → goodC (gI l k)) :
    Calls Try.prog 34 #[.slice A n c, .func (.func 63) #[] #[]] w fun e w' => e = .returned (.bool false) ∧ w' = w := by
  have h1 := hl.ncap
  have h2 := hl.nmax
  unfold maxLen at h2
  have HG := Lib.hid hg
  clear hg
  go_enter Try.func34, Try.ntmps34
  go_wp2_with fail
  refine (idxf_ok hl HG.out).mono ?_
  rintro e w1 ⟨rfl, rfl⟩
  go_wp2_with fail
  go_ret
  exact ⟨rfl, rfl⟩

set_option maxHeartbeats 1000000 in
theorem check_ok {A : Option Addr} {n c : Nat} {l : List Int} {at_ : Int} {w : World} (hl : Ints w A n c l) (hg : ∀ k, k < n → goodC (gI l k)) (h1 : 2 ≤ n) (h2 : n ≤ 120) (h3 : 0 ≤ at_) (h4 : at_ ≤ n) :
    Calls Try.prog 41 #[.agg #[.slice A n c, .int .i64 at_]] w fun e w' => e = .returned (.int .i64 0) ∧ Ext w w' := by
  have hnc := hl.ncap
  have hcm := hl.nmax
  unfold maxLen at hcm
  have HG := Lib.hid hg
  clear hg
  go_enter Try.func41, Try.ntmps41
  go_wp2_with fail
  refine (contf_ok (hl.ext (Ext.alloc _ _)) HG.out).mono ?_
  rintro e w1 ⟨rfl, rfl⟩
  go_wp2_with fail
  go_ret
  exact ⟨rfl, Ext.alloc _ _⟩

/-- A write to another block. -/
theorem Blk.keepCell {w : World} {g t : Nat} {cs : Array Value} (h : Blk w g t cs) {p : Addr} (hp : p.block ≠ g) (u : Value) : Blk (w.setCell p u) g t cs := by
  unfold Blk at h ⊢
  unfold World.setCell
  simp only [Array.getElem?_modify, hp, if_false, h]

end Go.Proofs.Ythphlghblmindaa
