/-
  The law ObjectIn: object.Of at any key, and the walk.
-/
import Derived.Test.YtkjlgfokgpdliaaObjI
namespace Go.Proofs.Ytkjlgfokgpdliaa
open Go.RowKit
set_option linter.unusedVariables false

set_option maxHeartbeats 1000000 in
theorem objOfA_large {A : Option Addr} {n c : Nat} {k : Int} {key : Int} {ar : Bool} {w : World} (hnc : n ≤ c) (hcm : c ≤ maxLen) (h0 : 4096 < n) :
    Calls Try.prog 16 #[.slice A n c, .int .i64 k, .bool ar, .int .i64 key] w fun e w' => e = .returned (.tuple #[.int .i64 0, .int .i64 0, .int .i64 2]) ∧ w' = w := by
  unfold maxLen at hcm
  go_enter Try.func16, Try.ntmps16
  go_wp2_with fail
  go_ret3
  exact ⟨rfl, rfl⟩
set_option maxHeartbeats 1000000 in
theorem objOfA_out {A : Option Addr} {n c : Nat} {k : Int} {key : Int} {ar : Bool} {w : World} (hnc : n ≤ c) (hcm : c ≤ maxLen) (h0 : n ≤ 4096) (h : k < 0 ∨ (0 < k ∧ (n : Int) ≤ k)) :
    Calls Try.prog 16 #[.slice A n c, .int .i64 k, .bool ar, .int .i64 key] w fun e w' => e = .returned (.tuple #[.int .i64 0, .int .i64 0, .int .i64 1]) ∧ w' = w := by
  unfold maxLen at hcm
  rcases h with h1 | ⟨h1, h2⟩
  · go_enter Try.func16, Try.ntmps16
    go_wp2_with fail
    all_goals
      go_ret3
      exact ⟨rfl, rfl⟩
  · go_enter Try.func16, Try.ntmps16
    go_wp2_with fail
    all_goals first
      | (exfalso; omega)
      | (go_ret3
         exact ⟨rfl, rfl⟩)
      | (exfalso; rename_i hh _; split at hh <;> omega)
      | (exfalso; rename_i hh; split at hh <;> omega)

/-- What object.Of answers at any key. -/
def ofK (l : List Int) (k : Nat) (ar : Bool) (key : Int) (x y er : Int) : Prop :=
  (key = 119 ∧ ofW l k ar false x y er) ∨ (key = 87 ∧ ofW l k ar true x y er) ∨ ((key = 34 ∨ key = 39 ∨ key = 96) ∧ ofQ l k ar key x y er) ∨
    ((key = 40 ∨ key = 41 ∨ key = 91 ∨ key = 93 ∨ key = 123 ∨ key = 125) ∧ ofB l k ar (opF key) x y er) ∨ (noKey key ∧ x = 0 ∧ y = 0 ∧ er = 9)

theorem words_any {l : List Int} {A : Option Addr} {n c : Nat} {k : Nat} {ar big : Bool} {w : World} (hl : Ints w A n c l) (hn : n ≤ 4096) (hk : k = 0 ∨ k < n) :
    Calls Try.prog 27 #[.slice A n c, .int .i64 k, .bool ar, .bool big] w fun e w' => (∃ x y er, ofW l k ar big x y er ∧ e = .returned (.tuple #[.agg #[.int .i64 x, .int .i64 y], .int .i64 er])) ∧ Ext w w' := by
  have hlen := hl.len
  rcases Nat.eq_zero_or_pos n with h0 | h0
  · subst h0
    exact words_none.mono fun e w' ⟨h1, h2⟩ => ⟨⟨0, 0, 6, .inr ⟨hlen, rfl, rfl, rfl⟩, h1⟩, h2⟩
  · cases ar with
    | false => exact (words_in hl hn (by omega)).mono fun e w' ⟨h1, h2⟩ => ⟨⟨_, _, 0, .inl ⟨by omega, rfl, by simp, by simp⟩, h1⟩, h2⟩
    | true => exact (words_out hl hn (by omega)).mono fun e w' ⟨h1, h2⟩ => ⟨⟨_, _, 0, .inl ⟨by omega, rfl, by simp, by simp⟩, h1⟩, h2⟩
theorem brackets_any {l : List Int} {A : Option Addr} {n c : Nat} {k : Nat} {ar : Bool} {o : Int} {w : World} (hl : Ints w A n c l) (wl : ∀ x ∈ l, (Lit.int .i64 x).wf = true) (hn : n ≤ 4096) (hk : k = 0 ∨ k < n) :
    Calls Try.prog 28 #[.slice A n c, .int .i64 k, .bool ar, .int .i64 o] w fun e w' => (∃ x y er, ofB l k ar o x y er ∧ e = .returned (.tuple #[.agg #[.int .i64 x, .int .i64 y], .int .i64 er])) ∧ Ext w w' := by
  cases ar with
  | false => exact (brackets_ok hl wl hn hk).mono fun e w' ⟨h1, h2⟩ => ⟨by
      rcases h1 with ⟨i, b, h, e⟩ | ⟨h, e⟩
      · exact ⟨_, _, 0, .inl ⟨i, b, h, rfl, by simp, by simp⟩, e⟩
      · exact ⟨0, 0, 6, .inr ⟨h, rfl, rfl, rfl⟩, e⟩, h2⟩
  | true => exact (bracketsA_ok hl wl hn hk).mono fun e w' ⟨h1, h2⟩ => ⟨by
      rcases h1 with ⟨i, b, h, e⟩ | ⟨h, e⟩
      · exact ⟨_, _, 0, .inl ⟨i, b, h, rfl, by simp, by simp⟩, e⟩
      · exact ⟨0, 0, 6, .inr ⟨h, rfl, rfl, rfl⟩, e⟩, h2⟩
theorem quotes_any {l : List Int} {A : Option Addr} {n c : Nat} {k : Nat} {ar : Bool} {q : Int} {w : World} (hl : Ints w A n c l) (hn : n ≤ 4096) :
    Calls Try.prog 29 #[.slice A n c, .int .i64 k, .bool ar, .int .i64 q] w fun e w' => (∃ x y er, ofQ l k ar q x y er ∧ e = .returned (.tuple #[.agg #[.int .i64 x, .int .i64 y], .int .i64 er])) ∧ Ext w w' :=
  (quotes_ok hl hn).mono fun e w' ⟨h1, h2⟩ => ⟨by
    rcases h1 with ⟨f, t, h, e⟩ | ⟨h, e⟩
    · exact ⟨_, _, 0, .inl ⟨f, t, h, rfl, rfl, rfl⟩, e⟩
    · exact ⟨0, 0, 6, .inr ⟨h, rfl, rfl, rfl⟩, e⟩, h2⟩

theorem objOf_any {l : List Int} {A : Option Addr} {n c : Nat} {k : Nat} {ar : Bool} {key : Int} {w : World} (hl : Ints w A n c l) (wl : ∀ x ∈ l, (Lit.int .i64 x).wf = true) (hn : n ≤ 4096) (hk : k = 0 ∨ k < n) :
    Calls Try.prog 16 #[.slice A n c, .int .i64 k, .bool ar, .int .i64 key] w fun e w' => (∃ x y er, ofK l k ar key x y er ∧ e = .returned (.tuple #[.int .i64 x, .int .i64 y, .int .i64 er])) ∧ Ext w w' := by
  have hx := Ext.alloc w (.cells #[.int .i64 0, .int .i64 0] 53)
  by_cases h1 : key = 119
  · exact (objOfW (big := false) hl.ncap hl.nmax hn hk (.inl ⟨h1, rfl⟩) (Lib.hid (words_any (hl.ext hx) hn hk))).mono fun e w' ⟨⟨x, y, er, h2, h3⟩, h4⟩ => ⟨⟨x, y, er, .inl ⟨h1, h2⟩, h3⟩, h4⟩
  by_cases h2 : key = 87
  · exact (objOfW (big := true) hl.ncap hl.nmax hn hk (.inr ⟨h2, rfl⟩) (Lib.hid (words_any (hl.ext hx) hn hk))).mono fun e w' ⟨⟨x, y, er, h3, h4⟩, h5⟩ => ⟨⟨x, y, er, .inr (.inl ⟨h2, h3⟩), h4⟩, h5⟩
  by_cases h3 : key = 34 ∨ key = 39 ∨ key = 96
  · exact (objOfQ hl.ncap hl.nmax hn hk h3 (Lib.hid (quotes_any (hl.ext hx) hn))).mono fun e w' ⟨⟨x, y, er, h4, h5⟩, h6⟩ => ⟨⟨x, y, er, .inr (.inr (.inl ⟨h3, h4⟩)), h5⟩, h6⟩
  by_cases h4 : key = 40 ∨ key = 41 ∨ key = 91 ∨ key = 93 ∨ key = 123 ∨ key = 125
  · exact (objOfB hl.ncap hl.nmax hn hk h4 (Lib.hid (brackets_any (hl.ext hx) wl hn hk))).mono fun e w' ⟨⟨x, y, er, h5, h6⟩, h7⟩ => ⟨⟨x, y, er, .inr (.inr (.inr (.inl ⟨h4, h5⟩))), h6⟩, h7⟩
  have hno : noKey key := by unfold noKey; omega
  exact (objOfN hl.ncap hl.nmax hn hk hno).mono fun e w' ⟨h5, h6⟩ => ⟨⟨0, 0, 9, .inr (.inr (.inr (.inr ⟨hno, rfl, rfl, rfl⟩))), h5⟩, h6⟩
end Go.Proofs.Ytkjlgfokgpdliaa
