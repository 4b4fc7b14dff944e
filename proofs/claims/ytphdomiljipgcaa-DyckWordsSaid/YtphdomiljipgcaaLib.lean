/-
  Contracts of small functions that every statement of this seat calls: the text as numbers, slices.Equal at []int.
-/
import Derived.Test.YtphdomiljipgcaaBase
namespace Go.Proofs.Ytphdomiljipgcaa
open Go.RowKit
set_option linter.unusedVariables false

theorem info_int : (Try.prog.info? 3).map (fun i => (i.zero, i.size, i.bytes)) = some (some (.int .i64 0), 1, 8) := by kernel_rfl

/-- Are two lists one? Behind a name. -/
def eqB (l m : List Int) : Bool := decide (l = m)
theorem eqB_true {l m : List Int} : eqB l m = true ↔ l = m := by simp [eqB]
theorem eqB_false {l m : List Int} : eqB l m = false ↔ l ≠ m := by simp [eqB]

theorem take_eq_succ {l m : List Int} {n k : Nat} (hl : l.length = n) (hm : m.length = n) (hk : k < n) (h : l.take k = m.take k) (he : gI l k = gI m k) : l.take (k + 1) = m.take (k + 1) := by
  have h1 : k < l.length := by omega
  have h2 : k < m.length := by omega
  rw [List.take_succ_eq_append_getElem h1, List.take_succ_eq_append_getElem h2, h]
  simp [gI, h1, h2] at he
  rw [he]
theorem take_eq_all {l m : List Int} {n : Nat} (hl : l.length = n) (hm : m.length = n) (h : l.take n = m.take n) : l = m := by
  rwa [List.take_of_length_le (by omega), List.take_of_length_le (by omega)] at h

/-- The bytes of a text as numbers. -/
def chars (s : ByteArray) : List Int := s.data.toList.map fun b => (b.toNat : Int)
theorem chars_len (s : ByteArray) : (chars s).length = s.size := by unfold chars; rw [List.length_map]; rfl

theorem take_snoc_chars (s : ByteArray) {k : Nat} (h : k < s.size) : (chars s).take k ++ [gI (chars s) k] = (chars s).take (k + 1) := by
  have hl : k < (chars s).length := by rw [chars_len]; exact h
  rw [List.take_succ_eq_append_getElem hl]
  simp [gI, hl]

theorem chars_cell {s : ByteArray} {k : Nat} (h : k < s.size) : (s.data.toList.map fun b => Value.int .u8 b.toNat)[k]? = some (.int .u8 (gI (chars s) k)) := by
  have hl : k < s.data.toList.length := h
  simp only [gI, chars, List.getElem?_map, List.getElem?_eq_getElem hl]
  rfl
theorem chars_bd (s : ByteArray) (k : Nat) : 0 ≤ gI (chars s) k ∧ gI (chars s) k ≤ 255 := by
  unfold gI chars
  rw [List.getElem?_map]
  cases h : s.data.toList[k]? with
  | none => simp
  | some b =>
    have := b.toNat_lt
    simp
    omega

set_option maxHeartbeats 1000000 in
theorem of_ok (s : ByteArray) (w : World) (hs : s.size ≤ 65536) :
    Calls Try.prog 7 #[.string s] w fun e w' => ∃ A c, e = .returned (.slice A s.size c) ∧ OwnI w' w.heap.size A s.size c (chars s) ∧ Ext w w' := by
  obtain ⟨i0, hi, hz0, hz1, hz2⟩ := info_parts info_int
  go_enter Try.func7, Try.ntmps7
  have hsm : s.size ≤ maxLen := by unfold maxLen; omega
  go_wp2_with (refine wpList_bytes rfl (.tmp 6) 9 35 5 rfl Try.underlying9 Try.underlying35 Try.underlying5 s rfl hsm ?_)
  intro ad c w1 hr he
  go_wp2_with fail
  go_loopw [3, 9] (fun v i wr => ∃ (k : Nat) (A : Option Addr) (c' : Nat), k ≤ s.size ∧ i = .int .i64 k ∧ v = .slice A k c' ∧ OwnI wr w1.heap.size A k c' ((chars s).take k) ∧ Ext w1 wr) (fun _ i _ => s.size - (intOf i).toNat)
  case atStart => exact ⟨0, none, 0, by omega, rfl, rfl, OwnI.nil _ _, Ext.refl _⟩
  case round =>
    obtain ⟨k, A, c', hk, rfl, rfl, hown, he1⟩ := hrel
    by_cases hlt : k < s.size
    · obtain ⟨ad', ead, hc⟩ := (hr.ext he1).at_ hlt
      injection ead with ead
      subst ead
      have c1 := hc k _ (chars_cell hlt)
      have hbd := chars_bd s k
      clear hc
      go_wp2_with (at_builtin; refine wpList_push rfl (.tmp 13) (.tmp 16) 22 rfl w1 w1.heap.size 3 i0 (.int .i64 0) 1 8 Try.underlying22 hi hz0 hz1 hz2 rfl (by decide) A k c' _ rfl hown #[.int .i64 (gI (chars s) k)] rfl ?_ rfl ?_ ?_ he1 (Nat.le_refl _) he1.hsize ?_)
      · rfl
      · unfold maxLen; omega
      · omega
      · intro A' c2 w2 hown' hgr _ he'
        have hown2 : OwnI w2 w1.heap.size A' (k + 1) c2 ((chars s).take (k + 1)) := by
          rw [← take_snoc_chars s hlt]; simpa [OwnI] using hown'
        clear hown hown' hgr he1
        go_wp2_with fail
        go_roundw
        case rel => exact ⟨k + 1, A', c2, by omega, by go_num, rfl, hown2, he'⟩
        case measure => simp [intOf]; omega
    · obtain rfl : k = s.size := by omega
      go_wp2_with fail
      go_ret
      exact ⟨A, c', rfl, by rw [List.take_of_length_le (by rw [chars_len]; omega)] at hown; exact Own.lower hown he.hsize, he.trans he1⟩

set_option maxHeartbeats 1000000 in
theorem equal_ok {A B : Option Addr} {n c m d : Nat} {l l' : List Int} {w : World} (hl : Ints w A n c l) (hl' : Ints w B m d l') :
    Calls Try.prog 8 #[.slice A n c, .slice B m d] w fun e w' => e = .returned (.bool (eqB l l')) ∧ ∃ k, w' = w.drewN k := by
  have h1 := hl.ncap
  have h2 := hl.nmax
  have h3 := hl'.ncap
  have h4 := hl'.nmax
  have e1 := Lib.hid hl.len
  have e2 := Lib.hid hl'.len
  unfold maxLen at h2 h4
  by_cases hnm : n = m
  · subst hnm
    have hne : ((n : Int) != (n : Int)) = false := by simp
    go_enter Try.func8, Try.ntmps8
    go_wp2_with fail
    go_loopw [13] (fun i wr => ∃ k : Nat, k ≤ n ∧ i = .int .i64 k ∧ Hid (l.take k = l'.take k) ∧ ∃ q, wr = w.drewN q) (fun i _ => n - (intOf i).toNat)
    case atStart => exact ⟨0, by omega, rfl, rfl, 0, rfl⟩
    case round =>
      obtain ⟨k, hk, rfl, ht, q, rfl⟩ := hrel
      by_cases hlt : k < n
      · obtain ⟨a1, rfl, hc1⟩ := hl.at_ hlt
        obtain ⟨a2, rfl, hc2⟩ := hl'.at_ hlt
        have c1 := hc1 k hlt
        have c2 := hc2 k hlt
        clear hc1 hc2
        by_cases heq : gI l k = gI l' k
        · have b1 : (gI l k != gI l' k) = false := by simpa using heq
          have HN := Lib.hid heq
          clear heq
          go_wp2_with fail
          go_quiet (fail)
          go_wp2_with fail
          go_roundw
          case rel => exact ⟨k + 1, by omega, by go_num, take_eq_succ e1.out e2.out hlt ht.out HN.out, q + nq, rfl⟩
          case measure => simp [intOf]; omega
        · have b1 : (gI l k != gI l' k) = true := by simpa using heq
          have HN := Lib.hid heq
          clear heq
          go_wp2_with fail
          go_quiet (fail)
          go_wp2_with fail
          go_ret
          exact ⟨ret_bool (eqB_false.2 (fun e => HN.out (by rw [e]))).symm, _, drew2 _ _ _⟩
      · obtain rfl : k = n := by omega
        go_wp2_with fail
        go_ret
        exact ⟨ret_bool (eqB_true.2 (take_eq_all e1.out e2.out ht.out)).symm, _, rfl⟩
  · have hne : ((n : Int) != (m : Int)) = true := by simp; omega
    have hf : eqB l l' = false := eqB_false.2 (fun e => hnm (by rw [← e1.out, ← e2.out, e]))
    go_enter Try.func8, Try.ntmps8
    go_wp2_with fail
    go_ret
    exact ⟨ret_bool hf.symm, 0, rfl⟩
theorem equal_ext {A B : Option Addr} {n c m d : Nat} {l l' : List Int} {w : World} (hl : Ints w A n c l) (hl' : Ints w B m d l') :
    Calls Try.prog 8 #[.slice A n c, .slice B m d] w fun e w' => e = .returned (.bool (eqB l l')) ∧ Ext w w' :=
  (equal_ok hl hl').mono fun e w' ⟨h1, k, h2⟩ => ⟨h1, by rw [h2]; exact Ext.drewN _ _⟩
end Go.Proofs.Ytphdomiljipgcaa
