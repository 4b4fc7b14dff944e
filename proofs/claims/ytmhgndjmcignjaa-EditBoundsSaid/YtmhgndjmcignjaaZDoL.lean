/-
  Small laws of what an operator takes.
-/
import Derived.Test.YtmhgndjmcignjaaZDoQ

namespace Go.Proofs.Ytmhgndjmcignjaa
open Go.RowKit
set_option linter.unusedVariables false
set_option linter.unusedSimpArgs false

theorem take_start (w : World) (A : Option Addr) (n c : Nat) (a fk fa k1 k2 k3 k4 k5 : Int) : ∃ w0, w0 = (((w.alloc (.cells #[.slice A n c, .int .i64 a] 24)).alloc (.cells #[.int .i64 fk, .int .i64 fa] 26)).alloc (.cells #[.int .i64 k1, .int .i64 k2, .int .i64 k3, .int .i64 k4, .int .i64 k5] 28)) ∧ Ext w w0 ∧
    Blk w0 w.heap.size 24 #[.slice A n c, .int .i64 a] ∧ Blk w0 (w.heap.size + 1) 26 #[.int .i64 fk, .int .i64 fa] ∧ Blk w0 (w.heap.size + 1 + 1) 28 #[.int .i64 k1, .int .i64 k2, .int .i64 k3, .int .i64 k4, .int .i64 k5] := by
  have h1 := Blk.new w 24 #[.slice A n c, .int .i64 a]
  have x1 := Ext.alloc w (.cells #[.slice A n c, .int .i64 a] 24)
  have z1 : (w.alloc (.cells #[.slice A n c, .int .i64 a] 24)).heap.size = w.heap.size + 1 := by simp
  generalize w.alloc (.cells #[.slice A n c, .int .i64 a] 24) = W1 at *
  have h2 := Blk.new W1 26 #[.int .i64 fk, .int .i64 fa]
  have x2 := Ext.alloc W1 (.cells #[.int .i64 fk, .int .i64 fa] 26)
  have z2 : (W1.alloc (.cells #[.int .i64 fk, .int .i64 fa] 26)).heap.size = w.heap.size + 1 + 1 := by simp [z1]
  rw [z1] at h2
  generalize W1.alloc (.cells #[.int .i64 fk, .int .i64 fa] 26) = W2 at *
  have h3 := Blk.new W2 28 #[.int .i64 k1, .int .i64 k2, .int .i64 k3, .int .i64 k4, .int .i64 k5]
  have x3 := Ext.alloc W2 (.cells #[.int .i64 k1, .int .i64 k2, .int .i64 k3, .int .i64 k4, .int .i64 k5] 28)
  rw [z2] at h3
  exact ⟨_, rfl, (x1.trans x2).trans x3, Blk.ext h1 (x2.trans x3), Blk.ext h2 x3, h3⟩

theorem EdOwn.nothing {w : World} {b : Nat} {v : Value} (h : EdOwn w b v []) : ∃ O c, v = .slice O 0 c := by
  obtain ⟨O, k, c, h1, h2⟩ := h.at_
  have := h2.len
  simp at this
  exact ⟨O, c, by rw [h1, ← this]⟩
/-- What an operator takes lies in the register without a name. -/
theorem keep_zero {l : List Int} {f t : Nat} {rl' : Nat → List Int} (h : KeepRel (fun _ => []) 0 f t ((l.drop f).take (t - f)) rl') (hft : f ≤ t) : rl' 0 = (l.drop f).take (t - f) := by
  by_cases he : f = t
  · rw [h.1 he]
    subst he
    simp
  · obtain ⟨i, m, h1, _, h2⟩ := h.2 (by omega)
    unfold regNo at h1
    rw [if_pos rfl] at h1
    injection h1 with h1
    injection h1 with h1 h3
    subst h1; subst h3; subst h2
    simp [putF, upd]
theorem took_len {l : List Int} {f t n : Nat} (hl : l.length = n) (hft : f ≤ t) (htn : t ≤ n) : ((l.drop f).take (t - f)).length = t - f := by
  simp; omega
theorem took_back {l : List Int} {f t : Nat} (hft : f ≤ t) (hf : f ≤ l.length) : (l.take f ++ l.drop t).take f ++ ((l.drop f).take (t - f)) ++ (l.take f ++ l.drop t).drop f = l := by
  have h1 : (l.take f).length = f := by simp; omega
  rw [List.take_append_of_le_length (by omega), List.take_of_length_le (by omega), List.drop_append_of_le_length (by omega), List.drop_of_length_le (l := l.take f) (by omega), List.nil_append]
  have h2 : l.drop t = (l.drop f).drop (t - f) := by rw [List.drop_drop, show f + (t - f) = t by omega]
  rw [h2, List.append_assoc, List.take_append_drop, List.take_append_drop]
end Go.Proofs.Ytmhgndjmcignjaa
