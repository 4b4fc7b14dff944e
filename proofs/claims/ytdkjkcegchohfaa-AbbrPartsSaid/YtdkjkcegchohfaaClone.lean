/-
  slices.Clone at []int: the walk.
-/
import Derived.Test.YtdkjkcegchohfaaLibA
import Derived.Lib.SliceRun
import Derived.Deep.RegionHeld3
namespace Go.Proofs.Ytdkjkcegchohfaa
open Go.RowKit
set_option linter.unusedVariables false
set_option linter.unusedSimpArgs false

set_option maxRecDepth 20000 in
set_option maxHeartbeats 1000000 in
theorem clone_ok {A : Option Addr} {n c : Nat} {l : List Int} {w : World} (hl : Ints w A n c l) (hA : A = none → c = 0) (hb : n * 8 ≤ 140737488355328) :
    Calls Try.prog 44 #[.slice A n c] w fun e w' => ∃ B d, e = .returned (.slice B n d) ∧ OwnI w' w.heap.size B n d l ∧ (B = none → d = 0) ∧ Ext w w' := by
  obtain ⟨i0, hi, hz0, hz1, hz2⟩ := info_parts info_int
  have hlen := hl.len
  have hnc := hl.ncap
  have hcm := hl.nmax
  have HB := Lib.hid hb
  clear hb
  unfold maxLen at hcm
  have hq : ∀ w1 : World, (binOp .eql 23 (.slice A n c) (.slice none 0 0)).run Try.prog w1 = .ok (.bool A.isNone) w1 := fun w1 => Lib.run_eql_slice_nil w1 23 3 A n c 0 0 Try.underlying23
  rcases A with _ | ad
  · obtain rfl := hA rfl
    obtain rfl : n = 0 := by omega
    obtain rfl : l = [] := List.eq_nil_of_length_eq_zero hlen
    clear HB hi hz0 hz1 hz2
    go_enter Try.func44, Try.ntmps44
    go_wp2_with fail
    go_ret
    exact ⟨none, 0, rfl, OwnI.nil _ _, fun _ => rfl, Ext.refl _⟩
  · have hn := Lib.hid hlen
    clear hlen hA
    go_enter Try.func44, Try.ntmps44
    have hown0 : Own (w.alloc (.cells #[] 3)) w.heap.size 3 1 (some ⟨w.heap.size, 0, none⟩) 0 0 [] :=
      ⟨rfl, .inr ⟨w.heap.size, 0, #[], rfl, Nat.le_refl _, heap_alloc_new w _, Nat.le_refl _, Nat.zero_le _, rfl, rfl⟩⟩
    have hx0 := Ext.alloc w (.cells #[] 3)
    go_wp2_with (at_builtin; refine wpList_app rfl (.tmp 5) (.tmp 6) 23 rfl w w.heap.size 3 i0 (.int .i64 0) 1 8 Try.underlying23 hi hz0 hz1 hz2 rfl (by decide) _ 0 0 [] rfl hown0 _ n c _ rfl (hl.ext hx0) ?_ ?_ ?_ hx0 (Nat.le_refl _) hx0.hsize ?_)
    · exact hl.one
    · have := hl.nmax; unfold maxLen at this ⊢; omega
    · have := HB.out; omega
    · intro A' c' w' hown' hgr hor he'
      clear hgr hown0 hx0
      have hnil : A' = none → c' = 0 := by
        rintro rfl
        rcases hown'.2 with ⟨hv, _⟩ | ⟨g, cap, cur, hv, _⟩
        · injection hv
        · injection hv with h1; cases h1
      clear hor
      go_wp2_with fail
      go_ret
      exact ⟨A', c', rfl, hown', hnil, he'⟩
end Go.Proofs.Ytdkjkcegchohfaa
