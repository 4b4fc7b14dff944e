/-
  The law ObjectIn: what both answers of object.Of say together, in plain Lean.
-/
import Derived.Test.YtmhgndjmcignjaaZObjO
import Derived.Test.YtmhgndjmcignjaaZJ6
import Derived.Test.YtmhgndjmcignjaaZObjW

namespace Go.Proofs.Ytmhgndjmcignjaa
open Go.RowKit
set_option linter.unusedVariables false
set_option linter.unusedSimpArgs false

def ofW (l : List Int) (k : Nat) (ar big : Bool) (x y er : Int) : Prop :=
  (k < l.length ∧ er = 0 ∧ x = (if ar = true then (woF l k big).1 else runF l k big : Nat) ∧ y = (if ar = true then (woF l k big).2 else runT l k big : Nat)) ∨ (l.length = 0 ∧ er = 6 ∧ x = 0 ∧ y = 0)
def ofB (l : List Int) (k : Nat) (ar : Bool) (o : Int) (x y er : Int) : Prop :=
  (∃ i b : Nat, found l k o i b ∧ er = 0 ∧ x = (if ar = true then (i : Int) else (i : Int) + 1) ∧ y = (if ar = true then (b : Int) + 1 else b)) ∨ (nofound l k o ∧ er = 6 ∧ x = 0 ∧ y = 0)
def ofQ (l : List Int) (k : Nat) (ar : Bool) (q : Int) (x y er : Int) : Prop :=
  (∃ f t : Nat, foundQ l k q f t ∧ er = 0 ∧ x = (if ar = true then (f : Int) else (f : Int) + 1) ∧ y = (if ar = true then (t : Int) + 1 else t)) ∨ (nofQ l k q ∧ er = 6 ∧ x = 0 ∧ y = 0)

theorem found_one {l : List Int} {k : Nat} {o : Int} {i b i' b' : Nat} (h : found l k o i b) (h' : found l k o i' b') : i = i' ∧ b = b' := by
  obtain ⟨h1, h2, h3, h4, h5, h6, h7⟩ := h
  obtain ⟨g1, g2, g3, g4, g5, g6, g7⟩ := h'
  have e : i = i' := by
    rcases Nat.lt_trichotomy i i' with h | h | h
    · have := h7 i' h g1 g2 g3; omega
    · exact h
    · have := g7 i h h1 h2 h3; omega
  subst e
  exact ⟨rfl, by omega⟩
theorem found_not {l : List Int} {k : Nat} {o : Int} {i b : Nat} (h : found l k o i b) : ¬ nofound l k o := fun h' => by
  obtain ⟨h1, h2, h3, h4, h5, h6, h7⟩ := h
  have := h' i h1 h2 h3
  omega

/-- What the law asks of both answers. -/
structure Both (l : List Int) (k : Nat) (x y er x' y' er' : Int) : Prop where
  same : er' = er
  bad : er ≠ 0 → x = 0 ∧ y = 0 ∧ x' = 0 ∧ y' = 0
  good : er = 0 → 0 ≤ x' ∧ x' ≤ x ∧ x ≤ y ∧ y ≤ y' ∧ y' ≤ l.length
theorem both_W {l : List Int} {k : Nat} {big : Bool} {x y er x' y' er' : Int} (h : ofW l k false big x y er) (h' : ofW l k true big x' y' er') :
    Both l k x y er x' y' er' ∧ (er = 0 → ∃ a b : Nat, x = a ∧ y = b ∧ a ≤ k ∧ k < b ∧ b ≤ l.length ∧ ∀ q : Nat, a ≤ q → q < b → kindAt l big q = kindAt l big k) := by
  rcases h with ⟨h1, h2, h3, h4⟩ | ⟨h1, h2, h3, h4⟩ <;> rcases h' with ⟨g1, g2, g3, g4⟩ | ⟨g1, g2, g3, g4⟩
  · obtain ⟨a1, a2, a3, a4⟩ := run_facts (big := big) h1
    obtain ⟨b1, b2, b3⟩ := woF_facts (big := big) h1
    simp at h3 h4 g3 g4
    refine ⟨⟨by omega, fun h => absurd h2 h, fun _ => by omega⟩, fun _ => ⟨_, _, h3, h4, a1, a2, a3, a4⟩⟩
  · omega
  · omega
  · exact ⟨⟨by omega, fun _ => by omega, fun h => by omega⟩, fun h => by omega⟩
theorem both_B {l : List Int} {k : Nat} {o : Int} {x y er x' y' er' : Int} (h : ofB l k false o x y er) (h' : ofB l k true o x' y' er') :
    Both l k x y er x' y' er' ∧ (er = 0 → x' = x - 1 ∧ y' = y + 1 ∧ (k : Int) < y') := by
  rcases h with ⟨i, b, h1, h2, h3, h4⟩ | ⟨h1, h2, h3, h4⟩ <;> rcases h' with ⟨i', b', g1, g2, g3, g4⟩ | ⟨g1, g2, g3, g4⟩
  · obtain ⟨rfl, rfl⟩ := found_one h1 g1
    obtain ⟨f1, f2, f3, f4, f5, f6, f7⟩ := h1
    have hne : i < b := by
      rcases opairs_says f2 with e | ⟨m, e1, e2, e3, e4, _⟩ <;> omega
    simp at h3 h4 g3 g4
    exact ⟨⟨by omega, fun h => absurd h2 h, fun _ => by omega⟩, fun _ => by omega⟩
  · exact absurd g1 (found_not h1)
  · exact absurd h1 (found_not g1)
  · exact ⟨⟨by omega, fun _ => by omega, fun h => by omega⟩, fun h => by omega⟩
theorem both_Q {l : List Int} {k : Nat} {q : Int} {x y er x' y' er' : Int} (h : ofQ l k false q x y er) (h' : ofQ l k true q x' y' er') :
    Both l k x y er x' y' er' ∧ (er = 0 → x' = x - 1 ∧ y' = y + 1 ∧ (k : Int) < y') := by
  rcases h with ⟨i, b, h1, h2, h3, h4⟩ | ⟨h1, h2, h3, h4⟩ <;> rcases h' with ⟨i', b', g1, g2, g3, g4⟩ | ⟨g1, g2, g3, g4⟩
  · obtain ⟨rfl, rfl⟩ := foundQ_one h1 g1
    obtain ⟨f1, ⟨f2, f3, f4⟩, f5, f6, f7⟩ := h1
    simp at h3 h4 g3 g4
    exact ⟨⟨by omega, fun h => absurd h2 h, fun _ => by omega⟩, fun _ => by omega⟩
  · exact absurd g1 (foundQ_no h1)
  · exact absurd h1 (foundQ_no g1)
  · exact ⟨⟨by omega, fun _ => by omega, fun h => by omega⟩, fun h => by omega⟩

set_option maxRecDepth 20000 in
set_option maxHeartbeats 1000000 in
theorem words_none {A : Option Addr} {c : Nat} {k : Nat} {ar big : Bool} {w : World} :
    Calls Try.prog 46 #[.slice A 0 c, .int .i64 k, .bool ar, .bool big] w fun e w' => e = .returned (.tuple #[.agg #[.int .i64 0, .int .i64 0], .int .i64 6]) ∧ Ext w w' := by
  have hx := Ext.alloc w (.cells #[.int .i64 0, .int .i64 0] 92)
  have hq := Blk.new w 92 #[.int .i64 0, .int .i64 0]
  have hbf : Blk (((w.alloc (.cells #[.int .i64 0, .int .i64 0] 92)).setCell ⟨w.heap.size, 0, none⟩ (.int .i64 0)).setCell ⟨w.heap.size, 1, none⟩ (.int .i64 0)) w.heap.size 92 #[.int .i64 0, .int .i64 0] := by
    simpa using (hq.set_ 0 (.int .i64 0)).set_ 1 (.int .i64 0)
  have c6 := hbf.cell 0
  have c7 := hbf.cell 1
  simp only [List.getElem?_toArray, List.getElem?_cons_zero, List.getElem?_cons_succ] at c6 c7
  clear hbf hq
  go_enter Try.func46, Try.ntmps46
  go_wp2_with fail
  refine bodyPost_ret (by simp [results, Try.results46, go_sem, c6, c7]; try rfl) rfl ?_
  first
    | exact ⟨rfl, hx⟩
    | exact ⟨rfl, (hx.setCell (by simp) _).setCell (by simp) _⟩
end Go.Proofs.Ytmhgndjmcignjaa

namespace Go.Proofs.Ytmhgndjmcignjaa
open Go.RowKit
set_option linter.unusedVariables false
set_option linter.unusedSimpArgs false

set_option maxRecDepth 20000 in
set_option maxHeartbeats 1000000 in
theorem objOfA_large {A : Option Addr} {n c : Nat} {k : Int} {key : Int} {ar : Bool} {w : World} (hnc : n ≤ c) (hcm : c ≤ maxLen) (h0 : 4096 < n) :
    Calls Try.prog 32 #[.slice A n c, .int .i64 k, .bool ar, .int .i64 key] w fun e w' => e = .returned (.tuple #[.int .i64 0, .int .i64 0, .int .i64 2]) ∧ w' = w := by
  unfold maxLen at hcm
  go_enter Try.func32, Try.ntmps32
  go_wp2_with fail
  go_ret3
  exact ⟨rfl, rfl⟩
set_option maxRecDepth 20000 in
set_option maxHeartbeats 1000000 in
theorem objOfA_out {A : Option Addr} {n c : Nat} {k : Int} {key : Int} {ar : Bool} {w : World} (hnc : n ≤ c) (hcm : c ≤ maxLen) (h0 : n ≤ 4096) (h : k < 0 ∨ (0 < k ∧ (n : Int) ≤ k)) :
    Calls Try.prog 32 #[.slice A n c, .int .i64 k, .bool ar, .int .i64 key] w fun e w' => e = .returned (.tuple #[.int .i64 0, .int .i64 0, .int .i64 1]) ∧ w' = w := by
  unfold maxLen at hcm
  rcases h with h1 | ⟨h1, h2⟩
  · go_enter Try.func32, Try.ntmps32
    go_wp2_with fail
    all_goals
      go_ret3
      exact ⟨rfl, rfl⟩
  · go_enter Try.func32, Try.ntmps32
    go_wp2_with fail
    all_goals first
      | (exfalso; omega)
      | (go_ret3
         exact ⟨rfl, rfl⟩)
      | (exfalso; rename_i hh _; split at hh <;> omega)
      | (exfalso; rename_i hh; split at hh <;> omega)

/-- What object.Of answers at any key. -/
def ofK (l : List Int) (k : Nat) (ar : Bool) (key : Int) (x y er : Int) : Prop :=
  (key = 119 ∧ ofW l k ar false x y er) ∨ (key = 87 ∧ ofW l k ar true x y er) ∨ ((key = 34 ∨ key = 39 ∨ key = 96) ∧ ofQ l k ar key x y er) ∨
    ((key = 40 ∨ key = 41 ∨ key = 91 ∨ key = 93 ∨ key = 123 ∨ key = 125) ∧ ofB l k ar (opF key) x y er) ∨ (noKey key ∧ x = 0 ∧ y = 0 ∧ er = 9)

theorem words_any {l : List Int} {A : Option Addr} {n c : Nat} {k : Nat} {ar big : Bool} {w : World} (hl : Ints w A n c l) (hn : n ≤ 4096) (hk : k = 0 ∨ k < n) :
    Calls Try.prog 46 #[.slice A n c, .int .i64 k, .bool ar, .bool big] w fun e w' => (∃ x y er, ofW l k ar big x y er ∧ e = .returned (.tuple #[.agg #[.int .i64 x, .int .i64 y], .int .i64 er])) ∧ Ext w w' := by
  have hlen := hl.len
  rcases Nat.eq_zero_or_pos n with h0 | h0
  · subst h0
    exact words_none.mono fun e w' ⟨h1, h2⟩ => ⟨⟨0, 0, 6, .inr ⟨hlen, rfl, rfl, rfl⟩, h1⟩, h2⟩
  · cases ar with
    | false => exact (words_in hl hn (by omega)).mono fun e w' ⟨h1, h2⟩ => ⟨⟨_, _, 0, .inl ⟨by omega, rfl, by simp, by simp⟩, h1⟩, h2⟩
    | true => exact (words_out hl hn (by omega)).mono fun e w' ⟨h1, h2⟩ => ⟨⟨_, _, 0, .inl ⟨by omega, rfl, by simp, by simp⟩, h1⟩, h2⟩
theorem brackets_any {l : List Int} {A : Option Addr} {n c : Nat} {k : Nat} {ar : Bool} {o : Int} {w : World} (hl : Ints w A n c l) (wl : ∀ x ∈ l, (Lit.int .i64 x).wf = true) (hn : n ≤ 4096) (hk : k = 0 ∨ k < n) :
    Calls Try.prog 47 #[.slice A n c, .int .i64 k, .bool ar, .int .i64 o] w fun e w' => (∃ x y er, ofB l k ar o x y er ∧ e = .returned (.tuple #[.agg #[.int .i64 x, .int .i64 y], .int .i64 er])) ∧ Ext w w' := by
  cases ar with
  | false => exact (brackets_ok hl wl hn hk).mono fun e w' ⟨h1, h2⟩ => ⟨by
      rcases h1 with ⟨i, b, h, e⟩ | ⟨h, e⟩
      · exact ⟨_, _, 0, .inl ⟨i, b, h, rfl, by simp, by simp⟩, e⟩
      · exact ⟨0, 0, 6, .inr ⟨h, rfl, rfl, rfl⟩, e⟩, h2⟩
  | true => exact (bracketsA_ok hl wl hn hk).mono fun e w' ⟨h1, h2⟩ => ⟨by
      rcases h1 with ⟨i, b, h, e⟩ | ⟨h, e⟩
      · exact ⟨_, _, 0, .inl ⟨i, b, h, rfl, by simp, by simp⟩, e⟩
      · exact ⟨0, 0, 6, .inr ⟨h, rfl, rfl, rfl⟩, e⟩, h2⟩
theorem quotes_any {l : List Int} {A : Option Addr} {n c : Nat} {k : Nat} {ar : Bool} {q : Int} {w : World} (hl : Ints w A n c l) (hn : n ≤ 4096) :
    Calls Try.prog 48 #[.slice A n c, .int .i64 k, .bool ar, .int .i64 q] w fun e w' => (∃ x y er, ofQ l k ar q x y er ∧ e = .returned (.tuple #[.agg #[.int .i64 x, .int .i64 y], .int .i64 er])) ∧ Ext w w' :=
  (quotes_ok hl hn).mono fun e w' ⟨h1, h2⟩ => ⟨by
    rcases h1 with ⟨f, t, h, e⟩ | ⟨h, e⟩
    · exact ⟨_, _, 0, .inl ⟨f, t, h, rfl, rfl, rfl⟩, e⟩
    · exact ⟨0, 0, 6, .inr ⟨h, rfl, rfl, rfl⟩, e⟩, h2⟩

theorem objOf_any {l : List Int} {A : Option Addr} {n c : Nat} {k : Nat} {ar : Bool} {key : Int} {w : World} (hl : Ints w A n c l) (wl : ∀ x ∈ l, (Lit.int .i64 x).wf = true) (hn : n ≤ 4096) (hk : k = 0 ∨ k < n) :
    Calls Try.prog 32 #[.slice A n c, .int .i64 k, .bool ar, .int .i64 key] w fun e w' => (∃ x y er, ofK l k ar key x y er ∧ e = .returned (.tuple #[.int .i64 x, .int .i64 y, .int .i64 er])) ∧ Ext w w' := by
  have hx := Ext.alloc w (.cells #[.int .i64 0, .int .i64 0] 92)
  by_cases h1 : key = 119
  · exact (objOfW (big := false) hl.ncap hl.nmax hn hk (.inl ⟨h1, rfl⟩) (Lib.hid (words_any (hl.ext hx) hn hk))).mono fun e w' ⟨⟨x, y, er, h2, h3⟩, h4⟩ => ⟨⟨x, y, er, .inl ⟨h1, h2⟩, h3⟩, h4⟩
  by_cases h2 : key = 87
  · exact (objOfW (big := true) hl.ncap hl.nmax hn hk (.inr ⟨h2, rfl⟩) (Lib.hid (words_any (hl.ext hx) hn hk))).mono fun e w' ⟨⟨x, y, er, h3, h4⟩, h5⟩ => ⟨⟨x, y, er, .inr (.inl ⟨h2, h3⟩), h4⟩, h5⟩
  by_cases h3 : key = 34 ∨ key = 39 ∨ key = 96
  · exact (objOfQ hl.ncap hl.nmax hn hk h3 (Lib.hid (quotes_any (hl.ext hx) hn))).mono fun e w' ⟨⟨x, y, er, h4, h5⟩, h6⟩ => ⟨⟨x, y, er, .inr (.inr (.inl ⟨h3, h4⟩)), h5⟩, h6⟩
  by_cases h4 : key = 40 ∨ key = 41 ∨ key = 91 ∨ key = 93 ∨ key = 123 ∨ key = 125
  · exact (objOfB hl.ncap hl.nmax hn hk h4 (Lib.hid (brackets_any (hl.ext hx) wl hn hk))).mono fun e w' ⟨⟨x, y, er, h5, h6⟩, h7⟩ => ⟨⟨x, y, er, .inr (.inr (.inr (.inl ⟨h4, h5⟩))), h6⟩, h7⟩
  have hno : noKey key := by unfold noKey; omega
  exact (objOfN hl.ncap hl.nmax hn hk hno).mono fun e w' ⟨h5, h6⟩ => ⟨⟨0, 0, 9, .inr (.inr (.inr (.inr ⟨hno, rfl, rfl, rfl⟩))), h5⟩, h6⟩
end Go.Proofs.Ytmhgndjmcignjaa
