/-
  object.Of at brackets, and the law ObjectBrackets: the walks.
-/
import Derived.Test.YtmhgndjmcignjaaZObjM

namespace Go.Proofs.Ytmhgndjmcignjaa
open Go.RowKit
set_option linter.unusedVariables false
set_option linter.unusedSimpArgs false

/-- The opening bracket of a kind. -/
def opF (key : Int) : Int := if cloF key = true then othF key else key
theorem oth_cases {key : Int} (h : othF key ≠ 0) : key = 40 ∨ key = 41 ∨ key = 91 ∨ key = 93 ∨ key = 123 ∨ key = 125 := by
  unfold othF at h
  (repeat' split at h) <;> omega
theorem opF_oth {key : Int} (h : othF key ≠ 0) : othF (opF key) ≠ 0 ∧ cloF (opF key) = false := by
  rcases oth_cases h with rfl | rfl | rfl | rfl | rfl | rfl <;> decide

set_option maxRecDepth 20000 in
set_option maxHeartbeats 4000000 in
theorem objOf_ok {l : List Int} {A : Option Addr} {n c : Nat} {k : Nat} {key : Int} {w : World} (hl : Ints w A n c l) (wl : ∀ x ∈ l, (Lit.int .i64 x).wf = true) (hn : n ≤ 4096) (hk : k = 0 ∨ k < n) (hkey : othF key ≠ 0) :
    Calls Try.prog 32 #[.slice A n c, .int .i64 k, .bool false, .int .i64 key] w fun e w' => ((∃ i b : Nat, found l k (opF key) i b ∧ e = .returned (.tuple #[.int .i64 ((i : Int) + 1), .int .i64 b, .int .i64 0])) ∨
      (nofound l k (opF key) ∧ e = .returned (.tuple #[.int .i64 0, .int .i64 0, .int .i64 6]))) ∧ Ext w w' := by
  have hnc := hl.ncap
  have hcm := hl.nmax
  unfold maxLen at hcm
  have HB := Lib.hid (brackets_ok (o := opF key) (hl.ext (Ext.alloc w (.cells #[.int .i64 0, .int .i64 0] 92))) wl hn hk)
  clear wl
  have hm : (k : Int) ≤ max 0 ((n : Int) - 1) := by omega
  rcases oth_cases hkey with rfl | rfl | rfl | rfl | rfl | rfl
  all_goals
    clear hkey
    first
      | rw [show opF 40 = 40 by decide] at HB ⊢
      | rw [show opF 41 = 40 by decide] at HB ⊢
      | rw [show opF 91 = 91 by decide] at HB ⊢
      | rw [show opF 93 = 91 by decide] at HB ⊢
      | rw [show opF 123 = 123 by decide] at HB ⊢
      | rw [show opF 125 = 123 by decide] at HB ⊢
    go_enter Try.func32, Try.ntmps32
    go_wp2_with fail
  all_goals
    refine HB.out.mono ?_
    rintro e w1 ⟨⟨i, b, hf, rfl⟩ | ⟨hf, rfl⟩, he1⟩
    · have HF := Lib.hid hf
      clear hf HB
      have hb0 := (Blk.new w 92 #[.int .i64 0, .int .i64 0]).ext he1
      have he := (Ext.alloc w (.cells #[.int .i64 0, .int .i64 0] 92)).trans he1
      have f0 := hb0.frozen 0
      have f1 := hb0.frozen 1
      have c4 := hb0.cell 0
      have c5 := hb0.cell 1
      simp only [List.getElem?_toArray, List.getElem?_cons_zero, List.getElem?_cons_succ] at c4 c5
      go_wp2_with fail
      have hbf : Blk ((w1.setCell ⟨w.heap.size, 0, none⟩ (.int .i64 ((i : Int) + 1))).setCell ⟨w.heap.size, 1, none⟩ (.int .i64 ((b : Int)))) w.heap.size 92 #[.int .i64 ((i : Int) + 1), .int .i64 ((b : Int))] := by
        simpa using (hb0.set_ 0 (.int .i64 ((i : Int) + 1))).set_ 1 (.int .i64 ((b : Int)))
      have hef := (he.setCell (p := ⟨w.heap.size, 0, none⟩) (by simp) (.int .i64 ((i : Int) + 1))).setCell (p := ⟨w.heap.size, 1, none⟩) (by simp) (.int .i64 ((b : Int)))
      clear c4 c5 f0 f1 hb0
      revert hbf hef
      generalize (w1.setCell ⟨w.heap.size, 0, none⟩ (.int .i64 ((i : Int) + 1))).setCell ⟨w.heap.size, 1, none⟩ (.int .i64 ((b : Int))) = w2
      intro hbf hef
      have c6 := hbf.cell 0
      have c7 := hbf.cell 1
      simp only [List.getElem?_toArray, List.getElem?_cons_zero, List.getElem?_cons_succ] at c6 c7
      clear hbf
      go_quiet (fail)
      go_wp2_with fail
      go_ret3
      exact ⟨.inl ⟨i, b, HF.out, rfl⟩, hef.to_drewN _⟩
    · have HF := Lib.hid hf
      clear hf HB
      have hb0 := (Blk.new w 92 #[.int .i64 0, .int .i64 0]).ext he1
      have he := (Ext.alloc w (.cells #[.int .i64 0, .int .i64 0] 92)).trans he1
      have f0 := hb0.frozen 0
      have f1 := hb0.frozen 1
      have c4 := hb0.cell 0
      have c5 := hb0.cell 1
      simp only [List.getElem?_toArray, List.getElem?_cons_zero, List.getElem?_cons_succ] at c4 c5
      go_wp2_with fail
      have hbf : Blk ((w1.setCell ⟨w.heap.size, 0, none⟩ (.int .i64 (0))).setCell ⟨w.heap.size, 1, none⟩ (.int .i64 (0))) w.heap.size 92 #[.int .i64 (0), .int .i64 (0)] := by
        simpa using (hb0.set_ 0 (.int .i64 (0))).set_ 1 (.int .i64 (0))
      have hef := (he.setCell (p := ⟨w.heap.size, 0, none⟩) (by simp) (.int .i64 (0))).setCell (p := ⟨w.heap.size, 1, none⟩) (by simp) (.int .i64 (0))
      clear c4 c5 f0 f1 hb0
      revert hbf hef
      generalize (w1.setCell ⟨w.heap.size, 0, none⟩ (.int .i64 (0))).setCell ⟨w.heap.size, 1, none⟩ (.int .i64 (0)) = w2
      intro hbf hef
      have c6 := hbf.cell 0
      have c7 := hbf.cell 1
      simp only [List.getElem?_toArray, List.getElem?_cons_zero, List.getElem?_cons_succ] at c6 c7
      clear hbf
      go_quiet (fail)
      go_wp2_with fail
      go_ret3
      exact ⟨.inr ⟨HF.out, rfl⟩, hef.to_drewN _⟩

set_option maxRecDepth 20000 in
set_option maxHeartbeats 1000000 in
theorem objOf_large {A : Option Addr} {n c : Nat} {k : Int} {key : Int} {w : World} (hnc : n ≤ c) (hcm : c ≤ maxLen) (h0 : 4096 < n) :
    Calls Try.prog 32 #[.slice A n c, .int .i64 k, .bool false, .int .i64 key] w fun e w' => e = .returned (.tuple #[.int .i64 0, .int .i64 0, .int .i64 2]) ∧ w' = w := by
  unfold maxLen at hcm
  go_enter Try.func32, Try.ntmps32
  go_wp2_with fail
  go_ret3
  exact ⟨rfl, rfl⟩
set_option maxRecDepth 20000 in
set_option maxHeartbeats 1000000 in
theorem objOf_out {A : Option Addr} {n c : Nat} {k : Int} {key : Int} {w : World} (hnc : n ≤ c) (hcm : c ≤ maxLen) (h0 : n ≤ 4096) (h : k < 0 ∨ (0 < k ∧ (n : Int) ≤ k)) :
    Calls Try.prog 32 #[.slice A n c, .int .i64 k, .bool false, .int .i64 key] w fun e w' => e = .returned (.tuple #[.int .i64 0, .int .i64 0, .int .i64 1]) ∧ w' = w := by
  unfold maxLen at hcm
  rcases h with h1 | ⟨h1, h2⟩
  · go_enter Try.func32, Try.ntmps32
    go_wp2_with fail
    all_goals
      go_ret3
      exact ⟨rfl, rfl⟩
  · go_enter Try.func32, Try.ntmps32
    go_wp2_with fail
    all_goals first
      | (exfalso; omega)
      | (go_ret3
         exact ⟨rfl, rfl⟩)
      | (exfalso; rename_i hh _; split at hh <;> omega)
      | (exfalso; rename_i hh; split at hh <;> omega)

theorem pairs_obj : found (chars ⟨#[40, 97, 40, 98, 41, 99, 41]⟩) 1 (opF 40) 0 6 ∧ ¬ nofound (chars ⟨#[40, 97, 40, 98, 41, 99, 41]⟩) 1 (opF 40) := by
  unfold found nofound
  refine ⟨⟨by decide, by decide +kernel, by decide +kernel, by decide +kernel, by decide, by decide +kernel, fun j h1 h2 h3 h4 => ?_⟩, fun h => ?_⟩
  · obtain rfl : j = 1 := by omega
    exact absurd h4 (by decide +kernel)
  · exact absurd (h 0 (by decide) (by decide +kernel) (by decide +kernel)) (by decide +kernel)
theorem found_obj {i b : Nat} (h : found (chars ⟨#[40, 97, 40, 98, 41, 99, 41]⟩) 1 (opF 40) i b) : i = 0 ∧ b = 6 := by
  obtain ⟨h1, _, h3, h4, _⟩ := h
  have : i = 0 ∨ i = 1 := by omega
  rcases this with rfl | rfl
  · have e : gI (pairsF (chars ⟨#[40, 97, 40, 98, 41, 99, 41]⟩)) 0 = 6 := by decide +kernel
    omega
  · exact absurd h3 (by decide +kernel)

end Go.Proofs.Ytmhgndjmcignjaa
