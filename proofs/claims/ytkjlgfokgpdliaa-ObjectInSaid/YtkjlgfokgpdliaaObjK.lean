/-
  The law ObjectIn: the walk.
-/
import Derived.Test.YtkjlgfokgpdliaaObjJ
namespace Go.Proofs.Ytkjlgfokgpdliaa
open Go.RowKit
set_option linter.unusedVariables false

theorem both_K {l : List Int} {k : Nat} {key x y er x' y' er' : Int} (h : ofK l k false key x y er) (h' : ofK l k true key x' y' er') :
    Both l k x y er x' y' er' ∧ (er = 0 → (key = 119 ∨ key = 87) → ∃ a b : Nat, x = a ∧ y = b ∧ a ≤ k ∧ k < b ∧ b ≤ l.length ∧ ∀ q : Nat, a ≤ q → q < b → kindAt l (key == 87) q = kindAt l (key == 87) k) ∧
      (er = 0 → ¬ (key = 119 ∨ key = 87) → x' = x - 1 ∧ y' = y + 1 ∧ (k : Int) < y') := by
  unfold ofK noKey at h h'
  rcases h with ⟨h1, h2⟩ | ⟨h1, h2⟩ | ⟨h1, h2⟩ | ⟨h1, h2⟩ | ⟨h1, h2, h3, h4⟩ <;> rcases h' with ⟨g1, g2⟩ | ⟨g1, g2⟩ | ⟨g1, g2⟩ | ⟨g1, g2⟩ | ⟨g1, g2, g3, g4⟩ <;> try (exfalso; omega)
  · have := both_W h2 g2
    subst h1
    exact ⟨this.1, fun e _ => this.2 e, fun _ h => absurd (.inl rfl) h⟩
  · have := both_W h2 g2
    subst h1
    exact ⟨this.1, fun e _ => this.2 e, fun _ h => absurd (.inr rfl) h⟩
  · have := both_Q h2 g2
    exact ⟨this.1, fun _ h => by omega, fun e _ => this.2 e⟩
  · have := both_B h2 g2
    exact ⟨this.1, fun _ h => by omega, fun e _ => this.2 e⟩
  · exact ⟨⟨by omega, fun _ => by omega, fun h => by omega⟩, fun h => by omega, fun h => by omega⟩

set_option maxHeartbeats 2000000 in
theorem oi1_ok {l : List Int} {a1 : Addr} {n c k : Nat} {ch : Int} {big : Bool} {w : World} {p1 p2 p3 : Addr} (hl : Ints w (some a1) n c l) (hk : k < n) (c1 : w.cell? p1 = some (.bool big)) (c2 : w.cell? p2 = some (.slice (some a1) n c)) (c3 : w.cell? p3 = some (.int .i64 k))
    (h : kindF ch big = kindF (gI l k) big) :
    Calls Try.prog 20 #[.int .i64 ch, .pointer (some p1), .pointer (some p2), .pointer (some p3)] w fun e w' => e = .returned (.bool false) ∧ Ext w w' := by
  obtain ⟨ad, e, hc⟩ := hl.at_ hk
  injection e with e
  subst e
  have d1 := hc k hk
  have b1 : (kindF ch big != kindF (gI l k) big) = false := by simpa using h
  clear hc h
  go_enter Try.func20, Try.ntmps20
  go_wp2_with fail
  go_quiet ((go_at_call 15; exact wkind_quiet _ _ _ _))
  go_wp2_with fail
  go_ret
  exact ⟨rfl, Ext.drewN _ _⟩

set_option maxHeartbeats 2000000 in
theorem oiIdx_ok {l m : List Int} {a1 : Addr} {A : Option Addr} {n c k nn cc : Nat} {big : Bool} {w : World} {p1 p2 p3 : Addr} (hm : Ints w A nn cc m) (hl : Ints w (some a1) n c l) (hk : k < n) (c1 : w.cell? p1 = some (.bool big)) (c2 : w.cell? p2 = some (.slice (some a1) n c)) (c3 : w.cell? p3 = some (.int .i64 k))
    (hg : ∀ q, q < nn → kindF (gI m q) big = kindF (gI l k) big) :
    Calls Try.prog 31 #[.slice A nn cc, .func (.func 20) #[] #[.pointer (some p1), .pointer (some p2), .pointer (some p3)]] w fun e w' => e = .returned (.int .i64 (-1)) ∧ Ext w w' := by
  have h1 := hm.ncap
  have h2 := hm.nmax
  unfold maxLen at h2
  have HG := Lib.hid hg
  clear hg
  go_enter Try.func31, Try.ntmps31
  go_wp2_with fail
  go_loopw [8] (fun i wr => ∃ j : Nat, j ≤ nn ∧ i = .int .i64 j ∧ Ext w wr) (fun i _ => nn - (intOf i).toNat)
  case atStart => exact ⟨0, by omega, rfl, Ext.refl _⟩
  case round =>
    obtain ⟨j, hj, rfl, he⟩ := hrel
    by_cases hlt : j < nn
    · obtain ⟨a2, rfl, hc1⟩ := hm.at_ hlt
      have d1 := he.cell (hc1 j hlt)
      clear hc1
      go_wp2_with fail
      refine (oi1_ok (hl.ext he) hk (he.cell c1) (he.cell c2) (he.cell c3) (HG.out j hlt)).mono ?_
      rintro e w1 ⟨rfl, he1⟩
      clear d1
      go_wp2_with fail
      go_roundw
      case rel => exact ⟨j + 1, by omega, by go_num, he.trans he1⟩
      case measure => simp [intOf]; omega
    · obtain rfl : j = nn := by omega
      go_wp2_with fail
      go_ret
      exact ⟨rfl, he⟩
set_option maxHeartbeats 2000000 in
theorem oiCont_ok {l m : List Int} {a1 : Addr} {A : Option Addr} {n c k nn cc : Nat} {big : Bool} {w : World} {p1 p2 p3 : Addr} (hm : Ints w A nn cc m) (hl : Ints w (some a1) n c l) (hk : k < n) (c1 : w.cell? p1 = some (.bool big)) (c2 : w.cell? p2 = some (.slice (some a1) n c)) (c3 : w.cell? p3 = some (.int .i64 k))
    (hg : ∀ q, q < nn → kindF (gI m q) big = kindF (gI l k) big) :
    Calls Try.prog 19 #[.slice A nn cc, .func (.func 20) #[] #[.pointer (some p1), .pointer (some p2), .pointer (some p3)]] w fun e w' => e = .returned (.bool false) ∧ Ext w w' := by
  have HI := Lib.hid (oiIdx_ok hm hl hk c1 c2 c3 hg)
  clear hg c1 c2 c3
  go_enter Try.func19, Try.ntmps19
  go_wp2_with fail
  refine HI.out.mono ?_
  rintro e w1 ⟨rfl, he1⟩
  clear HI
  go_wp2_with fail
  go_ret
  exact ⟨rfl, he1⟩

theorem oi_lit : woF (chars ⟨#[97, 98, 32, 99, 100]⟩) 1 false = (0, 3) := by decide +kernel
end Go.Proofs.Ytkjlgfokgpdliaa
