/-
  The law ObjectIn: what both answers of object.Of say together, in plain Lean.
-/
import Derived.Test.YtkjlgfokgpdliaaObjO
import Derived.Test.YtkjlgfokgpdliaaObjB
import Derived.Test.YtkjlgfokgpdliaaObjQ
import Derived.Test.YtkjlgfokgpdliaaObjW
namespace Go.Proofs.Ytkjlgfokgpdliaa
open Go.RowKit
set_option linter.unusedVariables false

def ofW (l : List Int) (k : Nat) (ar big : Bool) (x y er : Int) : Prop :=
  (k < l.length ∧ er = 0 ∧ x = (if ar = true then (woF l k big).1 else runF l k big : Nat) ∧ y = (if ar = true then (woF l k big).2 else runT l k big : Nat)) ∨ (l.length = 0 ∧ er = 6 ∧ x = 0 ∧ y = 0)
def ofB (l : List Int) (k : Nat) (ar : Bool) (o : Int) (x y er : Int) : Prop :=
  (∃ i b : Nat, found l k o i b ∧ er = 0 ∧ x = (if ar = true then (i : Int) else (i : Int) + 1) ∧ y = (if ar = true then (b : Int) + 1 else b)) ∨ (nofound l k o ∧ er = 6 ∧ x = 0 ∧ y = 0)
def ofQ (l : List Int) (k : Nat) (ar : Bool) (q : Int) (x y er : Int) : Prop :=
  (∃ f t : Nat, foundQ l k q f t ∧ er = 0 ∧ x = (if ar = true then (f : Int) else (f : Int) + 1) ∧ y = (if ar = true then (t : Int) + 1 else t)) ∨ (nofQ l k q ∧ er = 6 ∧ x = 0 ∧ y = 0)

theorem found_one {l : List Int} {k : Nat} {o : Int} {i b i' b' : Nat} (h : found l k o i b) (h' : found l k o i' b') : i = i' ∧ b = b' := by
  obtain ⟨h1, h2, h3, h4, h5, h6, h7⟩ := h
  obtain ⟨g1, g2, g3, g4, g5, g6, g7⟩ := h'
  have e : i = i' := by
    rcases Nat.lt_trichotomy i i' with h | h | h
    · have := h7 i' h g1 g2 g3; omega
    · exact h
    · have := g7 i h h1 h2 h3; omega
  subst e
  exact ⟨rfl, by omega⟩
theorem found_not {l : List Int} {k : Nat} {o : Int} {i b : Nat} (h : found l k o i b) : ¬ nofound l k o := fun h' => by
  obtain ⟨h1, h2, h3, h4, h5, h6, h7⟩ := h
  have := h' i h1 h2 h3
  omega

/-- What the law asks of both answers. -/
structure Both (l : List Int) (k : Nat) (x y er x' y' er' : Int) : Prop where
  same : er' = er
  bad : er ≠ 0 → x = 0 ∧ y = 0 ∧ x' = 0 ∧ y' = 0
  good : er = 0 → 0 ≤ x' ∧ x' ≤ x ∧ x ≤ y ∧ y ≤ y' ∧ y' ≤ l.length
theorem both_W {l : List Int} {k : Nat} {big : Bool} {x y er x' y' er' : Int} (h : ofW l k false big x y er) (h' : ofW l k true big x' y' er') :
    Both l k x y er x' y' er' ∧ (er = 0 → ∃ a b : Nat, x = a ∧ y = b ∧ a ≤ k ∧ k < b ∧ b ≤ l.length ∧ ∀ q : Nat, a ≤ q → q < b → kindAt l big q = kindAt l big k) := by
  rcases h with ⟨h1, h2, h3, h4⟩ | ⟨h1, h2, h3, h4⟩ <;> rcases h' with ⟨g1, g2, g3, g4⟩ | ⟨g1, g2, g3, g4⟩
  · obtain ⟨a1, a2, a3, a4⟩ := run_facts (big := big) h1
    obtain ⟨b1, b2, b3⟩ := woF_facts (big := big) h1
    simp at h3 h4 g3 g4
    refine ⟨⟨by omega, fun h => absurd h2 h, fun _ => by omega⟩, fun _ => ⟨_, _, h3, h4, a1, a2, a3, a4⟩⟩
  · omega
  · omega
  · exact ⟨⟨by omega, fun _ => by omega, fun h => by omega⟩, fun h => by omega⟩
theorem both_B {l : List Int} {k : Nat} {o : Int} {x y er x' y' er' : Int} (h : ofB l k false o x y er) (h' : ofB l k true o x' y' er') :
    Both l k x y er x' y' er' ∧ (er = 0 → x' = x - 1 ∧ y' = y + 1 ∧ (k : Int) < y') := by
  rcases h with ⟨i, b, h1, h2, h3, h4⟩ | ⟨h1, h2, h3, h4⟩ <;> rcases h' with ⟨i', b', g1, g2, g3, g4⟩ | ⟨g1, g2, g3, g4⟩
  · obtain ⟨rfl, rfl⟩ := found_one h1 g1
    obtain ⟨f1, f2, f3, f4, f5, f6, f7⟩ := h1
    have hne : i < b := by
      rcases opairs_says f2 with e | ⟨m, e1, e2, e3, e4, _⟩ <;> omega
    simp at h3 h4 g3 g4
    exact ⟨⟨by omega, fun h => absurd h2 h, fun _ => by omega⟩, fun _ => by omega⟩
  · exact absurd g1 (found_not h1)
  · exact absurd h1 (found_not g1)
  · exact ⟨⟨by omega, fun _ => by omega, fun h => by omega⟩, fun h => by omega⟩
theorem both_Q {l : List Int} {k : Nat} {q : Int} {x y er x' y' er' : Int} (h : ofQ l k false q x y er) (h' : ofQ l k true q x' y' er') :
    Both l k x y er x' y' er' ∧ (er = 0 → x' = x - 1 ∧ y' = y + 1 ∧ (k : Int) < y') := by
  rcases h with ⟨i, b, h1, h2, h3, h4⟩ | ⟨h1, h2, h3, h4⟩ <;> rcases h' with ⟨i', b', g1, g2, g3, g4⟩ | ⟨g1, g2, g3, g4⟩
  · obtain ⟨rfl, rfl⟩ := foundQ_one h1 g1
    obtain ⟨f1, ⟨f2, f3, f4⟩, f5, f6, f7⟩ := h1
    simp at h3 h4 g3 g4
    exact ⟨⟨by omega, fun h => absurd h2 h, fun _ => by omega⟩, fun _ => by omega⟩
  · exact absurd g1 (foundQ_no h1)
  · exact absurd h1 (foundQ_no g1)
  · exact ⟨⟨by omega, fun _ => by omega, fun h => by omega⟩, fun h => by omega⟩

set_option maxHeartbeats 1000000 in
theorem words_none {A : Option Addr} {c : Nat} {k : Nat} {ar big : Bool} {w : World} :
    Calls Try.prog 27 #[.slice A 0 c, .int .i64 k, .bool ar, .bool big] w fun e w' => e = .returned (.tuple #[.agg #[.int .i64 0, .int .i64 0], .int .i64 6]) ∧ Ext w w' := by
  have hx := Ext.alloc w (.cells #[.int .i64 0, .int .i64 0] 53)
  have hq := Blk.new w 53 #[.int .i64 0, .int .i64 0]
  have hbf : Blk (((w.alloc (.cells #[.int .i64 0, .int .i64 0] 53)).setCell ⟨w.heap.size, 0, none⟩ (.int .i64 0)).setCell ⟨w.heap.size, 1, none⟩ (.int .i64 0)) w.heap.size 53 #[.int .i64 0, .int .i64 0] := by
    simpa using (hq.set_ 0 (.int .i64 0)).set_ 1 (.int .i64 0)
  have c6 := hbf.cell 0
  have c7 := hbf.cell 1
  simp only [List.getElem?_toArray, List.getElem?_cons_zero, List.getElem?_cons_succ] at c6 c7
  clear hbf hq
  go_enter Try.func27, Try.ntmps27
  go_wp2_with fail
  refine bodyPost_ret (by simp [results, Try.results27, go_sem, c6, c7]; try rfl) rfl ?_
  first
    | exact ⟨rfl, hx⟩
    | exact ⟨rfl, (hx.setCell (by simp) _).setCell (by simp) _⟩
end Go.Proofs.Ytkjlgfokgpdliaa
