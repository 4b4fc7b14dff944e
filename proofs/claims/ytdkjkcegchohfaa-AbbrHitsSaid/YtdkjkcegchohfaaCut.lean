/-
  l[a:b] and l[a:] of numbers, with letters.
-/
import Derived.Test.YtdkjkcegchohfaaBase
import Derived.Lib.SliceRun
namespace Go.Proofs.Ytdkjkcegchohfaa
open Go.RowKit
set_option linter.unusedVariables false
set_option linter.unusedSimpArgs false

/-- Where l[a:b] begins. -/
def cutA (A : Option Addr) (c a : Nat) : Option Addr := if c = a then A else A.map (·.add a)
theorem cutA_none {A : Option Addr} {c a : Nat} (hA : A = none → c = 0) (h : cutA A c a = none) : c - a = 0 := by
  unfold cutA at h
  split at h
  · omega
  · cases A with
    | none => have := hA rfl; omega
    | some ad => cases h
theorem Ints.cutA {w : World} {A : Option Addr} {n c : Nat} {l : List Int} (h : Ints w A n c l) {a b : Nat} (h1 : a ≤ b) (h2 : b ≤ n) : Ints w (cutA A c a) (b - a) (c - a) ((l.drop a).take (b - a)) := h.cut h1 h2
theorem Ints.tailA {w : World} {A : Option Addr} {n c : Nat} {l : List Int} (h : Ints w A n c l) {a : Nat} (h1 : a ≤ n) : Ints w (Go.Proofs.Ytdkjkcegchohfaa.cutA A c a) (n - a) (c - a) (l.drop a) := by
  have := h.cutA h1 (Nat.le_refl n)
  rwa [List.take_of_length_le (by rw [List.length_drop, h.len]; exact Nat.le_refl _)] at this
theorem elem_ints : Try.prog.underlying 23 = some (.slice (Try.prog.elem 23)) := by kernel_rfl
theorem size_int (w : World) : (sizeOf (Try.prog.elem 23)).run Try.prog w = .ok 1 w := by kernel_rfl
/-- l[a:b] -/
theorem run_cutA (A : Option Addr) (n c a b : Nat) (h1 : a ≤ b) (h2 : b ≤ c) (u : World) :
    (Instr.slice 23 (.slice A n c) (some (.int .i64 (a : Int))) (some (.int .i64 (b : Int))) none).run Try.prog u = .ok (.slice (cutA A c a) (b - a) (c - a)) u := by
  rw [run_slice_lh u 23 A n c elem_ints .i64 .i64 a b (by omega) (by omega) (by omega), size_int]
  simp [sliced, cutA, Result.andThen]
/-- l[a:] -/
theorem run_tailA (A : Option Addr) (n c a : Nat) (h1 : a ≤ n) (u : World) :
    (Instr.slice 23 (.slice A n c) (some (.int .i64 (a : Int))) none none).run Try.prog u = .ok (.slice (cutA A c a) (n - a) (c - a)) u := by
  rw [run_slice_l u 23 A n c elem_ints .i64 a (by omega) (by omega), size_int]
  simp [sliced, cutA, Result.andThen]

end Go.Proofs.Ytdkjkcegchohfaa
