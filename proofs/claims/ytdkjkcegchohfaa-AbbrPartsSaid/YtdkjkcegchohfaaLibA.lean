/-
  Plain words: equality of lists, the bytes of a text as numbers.
-/
import Derived.Test.YtdkjkcegchohfaaBase
namespace Go.Proofs.Ytdkjkcegchohfaa
open Go.RowKit
set_option linter.unusedVariables false
set_option linter.unusedSimpArgs false

theorem info_int : (Try.prog.info? 3).map (fun i => (i.zero, i.size, i.bytes)) = some (some (.int .i64 0), 1, 8) := by kernel_rfl

/-- Are two lists one? Behind a name. -/
def eqB (l m : List Int) : Bool := decide (l = m)
theorem eqB_true {l m : List Int} : eqB l m = true ↔ l = m := by simp [eqB]
theorem eqB_false {l m : List Int} : eqB l m = false ↔ l ≠ m := by simp [eqB]

theorem take_eq_succ {l m : List Int} {n k : Nat} (hl : l.length = n) (hm : m.length = n) (hk : k < n) (h : l.take k = m.take k) (he : gI l k = gI m k) : l.take (k + 1) = m.take (k + 1) := by
  have h1 : k < l.length := by omega
  have h2 : k < m.length := by omega
  rw [List.take_succ_eq_append_getElem h1, List.take_succ_eq_append_getElem h2, h]
  simp [gI, h1, h2] at he
  rw [he]
theorem take_eq_all {l m : List Int} {n : Nat} (hl : l.length = n) (hm : m.length = n) (h : l.take n = m.take n) : l = m := by
  rwa [List.take_of_length_le (by omega), List.take_of_length_le (by omega)] at h

/-- The bytes of a text as numbers. -/
def chars (s : ByteArray) : List Int := s.data.toList.map fun b => (b.toNat : Int)
theorem chars_len (s : ByteArray) : (chars s).length = s.size := by unfold chars; rw [List.length_map]; rfl

theorem take_snoc_chars (s : ByteArray) {k : Nat} (h : k < s.size) : (chars s).take k ++ [gI (chars s) k] = (chars s).take (k + 1) := by
  have hl : k < (chars s).length := by rw [chars_len]; exact h
  rw [List.take_succ_eq_append_getElem hl]
  simp [gI, hl]

theorem chars_cell {s : ByteArray} {k : Nat} (h : k < s.size) : (s.data.toList.map fun b => Value.int .u8 b.toNat)[k]? = some (.int .u8 (gI (chars s) k)) := by
  have hl : k < s.data.toList.length := h
  simp only [gI, chars, List.getElem?_map, List.getElem?_eq_getElem hl]
  rfl
theorem chars_bd (s : ByteArray) (k : Nat) : 0 ≤ gI (chars s) k ∧ gI (chars s) k ≤ 255 := by
  unfold gI chars
  rw [List.getElem?_map]
  cases h : s.data.toList[k]? with
  | none => simp
  | some b =>
    have := b.toNat_lt
    simp
    omega
end Go.Proofs.Ytdkjkcegchohfaa
