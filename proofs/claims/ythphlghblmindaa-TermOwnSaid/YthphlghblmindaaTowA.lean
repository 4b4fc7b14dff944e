/-
  TermOwn: its drawn region; Show and Signs, whatever comes.
-/
import Derived.Test.YthphlghblmindaaPaiY
import Derived.Test.YthphlghblmindaaEdT
import Derived.Test.YthphlghblmindaaOwn
namespace Go.Proofs.Ythphlghblmindaa
open Go.RowKit
set_option linter.unusedVariables false
set_option linter.unusedSimpArgs false

theorem amp_slice {w : World} {b : Nat} {v : Value} {l : List Int} {x : Int} (h : Amp w b v l x) : ∃ A n c, v = .slice (some A) n c := let ⟨A, n, c, h1, _⟩ := h; ⟨A, n, c, h1⟩
theorem amp_st2 {w : World} {b g : Nat} {v : Value} {l : List Int} {x : Int} (h : Amp w b v l x) (hne : ∀ q, v.ownBlock = some q → q ≠ g) (u u' : Value) : Amp (st2 w g u u') b v l x := by
  obtain ⟨A, n, c, rfl, h1, h2⟩ := h
  exact ⟨A, n, c, rfl, st2_own_ne h1 hne u u', h2⟩

theorem amp_ints {w : World} {b n c : Nat} {A : Addr} {l : List Int} {x : Int} (h : Amp w b (.slice (some A) n c) l x) : Ints w (some A) n c l ∧ l.length = n := by
  obtain ⟨A', n', c', e1, h1, h2⟩ := h
  injection e1 with e1 e2 e3
  injection e1 with e1
  subst e1; subst e2; subst e3
  have h3 := h1.ints.front (k := n) (by omega)
  rw [List.take_append_of_le_length (by omega), List.take_of_length_le (by omega)] at h3
  exact ⟨h3, h2⟩
theorem amp_wide {w : World} {b n c : Nat} {A : Addr} {l : List Int} {x : Int} (h : Amp w b (.slice (some A) n c) l x) : Ints w (some A) (n + 2) c (l ++ [x, x]) := by
  obtain ⟨A', n', c', e1, h1, h2⟩ := h
  injection e1 with e1 e2 e3
  injection e1 with e1
  subst e1; subst e2; subst e3
  exact h1.ints
theorem stays_ext {A : Addr} {B : Option Addr} {n c m d : Nat} {l : List Int} {x : Int} {w : World} (hl : Ints w (some A) (n + 2) c (l ++ [x, x])) (hln : l.length = n) (hb : Ints w B m d l) :
    Calls Try.prog 23 #[.slice (some A) n c, .slice B m d, .int .i64 x] w fun e w' => e = .returned (.bool true) ∧ Ext w w' :=
  (stays_ok hl hln hb).mono fun e w' ⟨h1, k, h2⟩ => ⟨h1, by rw [h2]; exact Ext.drewN _ _⟩
/-- A row's struct is no block of numbers. -/
theorem row_ne_int {w : World} {p g : Nat} {cs cs' : Array Value} (h : Blk w p 34 cs) (hb : Blk w g 3 cs') : some p ≠ some g := fun e => by
  injection e with e
  subst e
  unfold Blk at h hb
  rw [h] at hb
  injection hb with hb
  injection hb with _ hb
  exact absurd hb (by decide)
/-- What Show makes, whatever comes. -/
def shwR (l : List Int) (n : Nat) (a : Int) (sg : List Int) (r : List Int × Int) : Prop := (rowOk l n a ∧ r = ((showR (l, a.toNat) sg).1, ((showR (l, a.toNat) sg).2 : Int))) ∨ (¬ rowOk l n a ∧ r = ([], 0))
theorem shwR_uniq {l : List Int} {n : Nat} {a : Int} {sg : List Int} {r r' : List Int × Int} (h : shwR l n a sg r) (h' : shwR l n a sg r') : r = r' := by
  rcases h with ⟨h1, h2⟩ | ⟨h1, h2⟩ <;> rcases h' with ⟨g1, g2⟩ | ⟨g1, g2⟩
  · rw [h2, g2]
  · exact absurd h1 g1
  · exact absurd g1 h1
  · rw [h2, g2]
theorem show_any {A B : Option Addr} {n c m d : Nat} {l sg : List Int} {a : Int} {w : World} (hl : Ints w A n c l) (hA : A = none → c = 0) (hs : Ints w B m d sg) :
    Calls Try.prog 38 #[.agg #[.slice A n c, .int .i64 a], .slice B m d] w fun e w' => ∃ S q r rl z k, e = .returned (.tuple #[.agg #[.slice S q r, .int .i64 z], .int .i64 k]) ∧ shwR l n a sg (rl, z) ∧ OwnI w' w.heap.size S q r rl ∧ Ext w w' := by
  by_cases hg : rowOk l n a
  · obtain ⟨a0, rfl⟩ := nat_of hg.2.2.1
    exact (show_ok hl hA hs hg).mono fun e w' ⟨⟨s, d', h1, h2⟩, h3⟩ => ⟨_, _, _, _, _, _, h1, .inl ⟨hg, by simp⟩, h2, h3⟩
  · exact (show_bad (B := B) (m := m) (d := d) hl hg).mono fun e w' ⟨⟨k, _, h1⟩, h2⟩ => ⟨_, _, _, [], 0, _, h1, .inr ⟨hg, rfl⟩, OwnI.nil _ _, h2⟩
theorem wayN_le {x y : Nat} (hx : x ≤ 120) (hy : y ≤ 120) : wayN x y ≤ 121 := by unfold wayN; split <;> omega
theorem signs_any {A B : Option Addr} {n c m d : Nat} {a b : List Int} {st at_ : Int} {w : World} (ha : Ints w A n c a) (hb : Ints w B m d b) (hB : B = none → d = 0) :
    Calls Try.prog 14 #[.agg #[.slice A n c, .int .i64 st], .agg #[.slice B m d, .int .i64 at_]] w fun e w' => ∃ S q r z l, e = .returned (.tuple #[.slice S q r, .int .i64 z]) ∧ OwnI w' w.heap.size S q r l ∧ q ≤ 1000 ∧ Ext w w' := by
  by_cases hg : rowOk a n st ∧ rowOk b m at_ ∧ n = m
  · obtain ⟨g1, g2, rfl⟩ := hg
    obtain ⟨a0, rfl⟩ := nat_of g1.2.2.1
    obtain ⟨b0, rfl⟩ := nat_of g2.2.2.1
    refine (signs_ok ha hb hB g1 g2 rfl).mono fun e w' ⟨S, q, r, h1, h2, h3⟩ => ⟨S, q, r, 0, _, h1, h2, ?_, h3⟩
    have hl := (OwnI.ints h2).len
    have h4 := (signs_law (a := a) (b := b) (st := a0) (at_ := b0) (by rw [ha.len, hb.len]) (by
      intro k hk
      rw [hb.len] at hk
      exact g2.2.2.2.2 k hk) (by rw [hb.len]; have := g1.2.2.2.1; omega) (by rw [hb.len]; have := g2.2.2.2.1; omega)).2.1
    have h5 := (ful_spec b b.length).1
    rw [hb.len] at h4 h5
    have h6 := wayN_le (x := fulF b n) (y := b0) (by have := g1.2.1; omega) (by have := g1.2.1; have := g2.2.2.2.1; omega)
    have := g1.2.1
    omega
  · exact (signs_bad ha hb hg).mono fun e w' ⟨⟨z, _, h1⟩, h2⟩ => ⟨none, 0, 0, z, [], h1, OwnI.nil _ _, by omega, h2⟩
end Go.Proofs.Ythphlghblmindaa
