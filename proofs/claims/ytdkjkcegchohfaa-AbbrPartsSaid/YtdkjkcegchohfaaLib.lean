/-
  The text as numbers.
-/
import Derived.Test.YtdkjkcegchohfaaLibA
namespace Go.Proofs.Ytdkjkcegchohfaa
open Go.RowKit
set_option linter.unusedVariables false
set_option linter.unusedSimpArgs false

set_option maxRecDepth 20000 in
set_option maxHeartbeats 1000000 in
theorem of_ok (s : ByteArray) (w : World) (hs : s.size ≤ 65536) :
    Calls Try.prog 10 #[.string s] w fun e w' => ∃ A c, e = .returned (.slice A s.size c) ∧ OwnI w' w.heap.size A s.size c (chars s) ∧ Ext w w' := by
  obtain ⟨i0, hi, hz0, hz1, hz2⟩ := info_parts info_int
  go_enter Try.func10, Try.ntmps10
  have hsm : s.size ≤ maxLen := by unfold maxLen; omega
  go_wp2_with (refine wpList_bytes rfl (.tmp 6) 9 77 5 rfl Try.underlying9 Try.underlying77 Try.underlying5 s rfl hsm ?_)
  intro ad c w1 hr he
  go_wp2_with fail
  go_loopw [3, 9] (fun v i wr => ∃ (k : Nat) (A : Option Addr) (c' : Nat), k ≤ s.size ∧ i = .int .i64 k ∧ v = .slice A k c' ∧ OwnI wr w1.heap.size A k c' ((chars s).take k) ∧ Ext w1 wr) (fun _ i _ => s.size - (intOf i).toNat)
  case atStart => exact ⟨0, none, 0, by omega, rfl, rfl, OwnI.nil _ _, Ext.refl _⟩
  case round =>
    obtain ⟨k, A, c', hk, rfl, rfl, hown, he1⟩ := hrel
    by_cases hlt : k < s.size
    · obtain ⟨ad', ead, hc⟩ := (hr.ext he1).at_ hlt
      injection ead with ead
      subst ead
      have c1 := hc k _ (chars_cell hlt)
      have hbd := chars_bd s k
      clear hc
      go_wp2_with (at_builtin; refine wpList_push rfl (.tmp 13) (.tmp 16) 23 rfl w1 w1.heap.size 3 i0 (.int .i64 0) 1 8 Try.underlying23 hi hz0 hz1 hz2 rfl (by decide) A k c' _ rfl hown #[.int .i64 (gI (chars s) k)] rfl ?_ rfl ?_ ?_ he1 (Nat.le_refl _) he1.hsize ?_)
      · rfl
      · unfold maxLen; omega
      · omega
      · intro A' c2 w2 hown' hgr _ he'
        have hown2 : OwnI w2 w1.heap.size A' (k + 1) c2 ((chars s).take (k + 1)) := by
          rw [← take_snoc_chars s hlt]; simpa [OwnI] using hown'
        clear hown hown' hgr he1
        go_wp2_with fail
        go_roundw
        case rel => exact ⟨k + 1, A', c2, by omega, by go_num, rfl, hown2, he'⟩
        case measure => simp [intOf]; omega
    · obtain rfl : k = s.size := by omega
      go_wp2_with fail
      go_ret
      exact ⟨A, c', rfl, by rw [List.take_of_length_le (by rw [chars_len]; omega)] at hown; exact Own.lower hown he.hsize, he.trans he1⟩

end Go.Proofs.Ytdkjkcegchohfaa
