/-
  object.Of for any key: what the callee finds is what Of answers.
-/
import Derived.Test.YtmhgndjmcignjaaZObjL

namespace Go.Proofs.Ytmhgndjmcignjaa
open Go.RowKit
set_option linter.unusedVariables false
set_option linter.unusedSimpArgs false

set_option maxRecDepth 20000 in
set_option maxHeartbeats 4000000 in
theorem objOfW {A : Option Addr} {n c : Nat} {k : Nat} {key : Int} {ar : Bool} {big : Bool} {R : Int → Int → Int → Prop} {w : World} (hnc : n ≤ c) (hcm : c ≤ maxLen) (hn : n ≤ 4096) (hk : k = 0 ∨ k < n) (hkey : (key = 119 ∧ big = false) ∨ (key = 87 ∧ big = true))
    (HB : Hid (Calls Try.prog 46 #[.slice A n c, .int .i64 k, .bool ar, .bool big] (w.alloc (.cells #[.int .i64 0, .int .i64 0] 92)) fun e w' => (∃ x y er, R x y er ∧ e = .returned (.tuple #[.agg #[.int .i64 x, .int .i64 y], .int .i64 er])) ∧ Ext (w.alloc (.cells #[.int .i64 0, .int .i64 0] 92)) w')) :
    Calls Try.prog 32 #[.slice A n c, .int .i64 k, .bool ar, .int .i64 key] w fun e w' => (∃ x y er, R x y er ∧ e = .returned (.tuple #[.int .i64 x, .int .i64 y, .int .i64 er])) ∧ Ext w w' := by
  unfold maxLen at hcm
  have hm : (k : Int) ≤ max 0 ((n : Int) - 1) := by omega
  rcases hkey with ⟨rfl, rfl⟩ | ⟨rfl, rfl⟩
  all_goals
    go_enter Try.func32, Try.ntmps32
    go_wp2_with fail
  all_goals
    refine HB.out.mono ?_
    rintro e w1 ⟨⟨x, y, er, hf, rfl⟩, he1⟩
    have HF := Lib.hid hf
    clear hf HB
    have hb0 := (Blk.new w 92 #[.int .i64 0, .int .i64 0]).ext he1
    have he := (Ext.alloc w (.cells #[.int .i64 0, .int .i64 0] 92)).trans he1
    have f0 := hb0.frozen 0
    have f1 := hb0.frozen 1
    have c4 := hb0.cell 0
    have c5 := hb0.cell 1
    simp only [List.getElem?_toArray, List.getElem?_cons_zero, List.getElem?_cons_succ] at c4 c5
    go_wp2_with fail
    have hbf : Blk ((w1.setCell ⟨w.heap.size, 0, none⟩ (.int .i64 x)).setCell ⟨w.heap.size, 1, none⟩ (.int .i64 y)) w.heap.size 92 #[.int .i64 x, .int .i64 y] := by
      simpa using (hb0.set_ 0 (.int .i64 x)).set_ 1 (.int .i64 y)
    have hef := (he.setCell (p := ⟨w.heap.size, 0, none⟩) (by simp) (.int .i64 x)).setCell (p := ⟨w.heap.size, 1, none⟩) (by simp) (.int .i64 y)
    clear c4 c5 f0 f1 hb0
    revert hbf hef
    generalize (w1.setCell ⟨w.heap.size, 0, none⟩ (.int .i64 x)).setCell ⟨w.heap.size, 1, none⟩ (.int .i64 y) = w2
    intro hbf hef
    have c6 := hbf.cell 0
    have c7 := hbf.cell 1
    simp only [List.getElem?_toArray, List.getElem?_cons_zero, List.getElem?_cons_succ] at c6 c7
    clear hbf
    go_quiet (fail)
    go_wp2_with fail
    go_ret3
    exact ⟨⟨x, y, er, HF.out, rfl⟩, hef.to_drewN _⟩

set_option maxRecDepth 20000 in
set_option maxHeartbeats 4000000 in
theorem objOfQ {A : Option Addr} {n c : Nat} {k : Nat} {key : Int} {ar : Bool} {R : Int → Int → Int → Prop} {w : World} (hnc : n ≤ c) (hcm : c ≤ maxLen) (hn : n ≤ 4096) (hk : k = 0 ∨ k < n) (hkey : key = 34 ∨ key = 39 ∨ key = 96)
    (HB : Hid (Calls Try.prog 48 #[.slice A n c, .int .i64 k, .bool ar, .int .i64 key] (w.alloc (.cells #[.int .i64 0, .int .i64 0] 92)) fun e w' => (∃ x y er, R x y er ∧ e = .returned (.tuple #[.agg #[.int .i64 x, .int .i64 y], .int .i64 er])) ∧ Ext (w.alloc (.cells #[.int .i64 0, .int .i64 0] 92)) w')) :
    Calls Try.prog 32 #[.slice A n c, .int .i64 k, .bool ar, .int .i64 key] w fun e w' => (∃ x y er, R x y er ∧ e = .returned (.tuple #[.int .i64 x, .int .i64 y, .int .i64 er])) ∧ Ext w w' := by
  unfold maxLen at hcm
  have hm : (k : Int) ≤ max 0 ((n : Int) - 1) := by omega
  rcases hkey with rfl | rfl | rfl
  all_goals
    go_enter Try.func32, Try.ntmps32
    go_wp2_with fail
  all_goals
    refine HB.out.mono ?_
    rintro e w1 ⟨⟨x, y, er, hf, rfl⟩, he1⟩
    have HF := Lib.hid hf
    clear hf HB
    have hb0 := (Blk.new w 92 #[.int .i64 0, .int .i64 0]).ext he1
    have he := (Ext.alloc w (.cells #[.int .i64 0, .int .i64 0] 92)).trans he1
    have f0 := hb0.frozen 0
    have f1 := hb0.frozen 1
    have c4 := hb0.cell 0
    have c5 := hb0.cell 1
    simp only [List.getElem?_toArray, List.getElem?_cons_zero, List.getElem?_cons_succ] at c4 c5
    go_wp2_with fail
    have hbf : Blk ((w1.setCell ⟨w.heap.size, 0, none⟩ (.int .i64 x)).setCell ⟨w.heap.size, 1, none⟩ (.int .i64 y)) w.heap.size 92 #[.int .i64 x, .int .i64 y] := by
      simpa using (hb0.set_ 0 (.int .i64 x)).set_ 1 (.int .i64 y)
    have hef := (he.setCell (p := ⟨w.heap.size, 0, none⟩) (by simp) (.int .i64 x)).setCell (p := ⟨w.heap.size, 1, none⟩) (by simp) (.int .i64 y)
    clear c4 c5 f0 f1 hb0
    revert hbf hef
    generalize (w1.setCell ⟨w.heap.size, 0, none⟩ (.int .i64 x)).setCell ⟨w.heap.size, 1, none⟩ (.int .i64 y) = w2
    intro hbf hef
    have c6 := hbf.cell 0
    have c7 := hbf.cell 1
    simp only [List.getElem?_toArray, List.getElem?_cons_zero, List.getElem?_cons_succ] at c6 c7
    clear hbf
    go_quiet (fail)
    go_wp2_with fail
    go_ret3
    exact ⟨⟨x, y, er, HF.out, rfl⟩, hef.to_drewN _⟩

set_option maxRecDepth 20000 in
set_option maxHeartbeats 4000000 in
theorem objOfB {A : Option Addr} {n c : Nat} {k : Nat} {key : Int} {ar : Bool} {R : Int → Int → Int → Prop} {w : World} (hnc : n ≤ c) (hcm : c ≤ maxLen) (hn : n ≤ 4096) (hk : k = 0 ∨ k < n) (hkey : key = 40 ∨ key = 41 ∨ key = 91 ∨ key = 93 ∨ key = 123 ∨ key = 125)
    (HB : Hid (Calls Try.prog 47 #[.slice A n c, .int .i64 k, .bool ar, .int .i64 (opF key)] (w.alloc (.cells #[.int .i64 0, .int .i64 0] 92)) fun e w' => (∃ x y er, R x y er ∧ e = .returned (.tuple #[.agg #[.int .i64 x, .int .i64 y], .int .i64 er])) ∧ Ext (w.alloc (.cells #[.int .i64 0, .int .i64 0] 92)) w')) :
    Calls Try.prog 32 #[.slice A n c, .int .i64 k, .bool ar, .int .i64 key] w fun e w' => (∃ x y er, R x y er ∧ e = .returned (.tuple #[.int .i64 x, .int .i64 y, .int .i64 er])) ∧ Ext w w' := by
  unfold maxLen at hcm
  have hm : (k : Int) ≤ max 0 ((n : Int) - 1) := by omega
  rcases hkey with rfl | rfl | rfl | rfl | rfl | rfl
  all_goals
    first
      | rw [show opF 40 = 40 by decide] at HB
      | rw [show opF 41 = 40 by decide] at HB
      | rw [show opF 91 = 91 by decide] at HB
      | rw [show opF 93 = 91 by decide] at HB
      | rw [show opF 123 = 123 by decide] at HB
      | rw [show opF 125 = 123 by decide] at HB
    go_enter Try.func32, Try.ntmps32
    go_wp2_with fail
  all_goals
    refine HB.out.mono ?_
    rintro e w1 ⟨⟨x, y, er, hf, rfl⟩, he1⟩
    have HF := Lib.hid hf
    clear hf HB
    have hb0 := (Blk.new w 92 #[.int .i64 0, .int .i64 0]).ext he1
    have he := (Ext.alloc w (.cells #[.int .i64 0, .int .i64 0] 92)).trans he1
    have f0 := hb0.frozen 0
    have f1 := hb0.frozen 1
    have c4 := hb0.cell 0
    have c5 := hb0.cell 1
    simp only [List.getElem?_toArray, List.getElem?_cons_zero, List.getElem?_cons_succ] at c4 c5
    go_wp2_with fail
    have hbf : Blk ((w1.setCell ⟨w.heap.size, 0, none⟩ (.int .i64 x)).setCell ⟨w.heap.size, 1, none⟩ (.int .i64 y)) w.heap.size 92 #[.int .i64 x, .int .i64 y] := by
      simpa using (hb0.set_ 0 (.int .i64 x)).set_ 1 (.int .i64 y)
    have hef := (he.setCell (p := ⟨w.heap.size, 0, none⟩) (by simp) (.int .i64 x)).setCell (p := ⟨w.heap.size, 1, none⟩) (by simp) (.int .i64 y)
    clear c4 c5 f0 f1 hb0
    revert hbf hef
    generalize (w1.setCell ⟨w.heap.size, 0, none⟩ (.int .i64 x)).setCell ⟨w.heap.size, 1, none⟩ (.int .i64 y) = w2
    intro hbf hef
    have c6 := hbf.cell 0
    have c7 := hbf.cell 1
    simp only [List.getElem?_toArray, List.getElem?_cons_zero, List.getElem?_cons_succ] at c6 c7
    clear hbf
    go_quiet (fail)
    go_wp2_with fail
    go_ret3
    exact ⟨⟨x, y, er, HF.out, rfl⟩, hef.to_drewN _⟩

/-- Any other key is none. -/
def noKey (key : Int) : Prop := key ≠ 119 ∧ key ≠ 87 ∧ key ≠ 34 ∧ key ≠ 39 ∧ key ≠ 96 ∧ key ≠ 40 ∧ key ≠ 41 ∧ key ≠ 91 ∧ key ≠ 93 ∧ key ≠ 123 ∧ key ≠ 125
set_option maxRecDepth 20000 in
set_option maxHeartbeats 4000000 in
theorem objOfN {A : Option Addr} {n c : Nat} {k : Nat} {key : Int} {ar : Bool} {w : World} (hnc : n ≤ c) (hcm : c ≤ maxLen) (hn : n ≤ 4096) (hk : k = 0 ∨ k < n) (hkey : noKey key) :
    Calls Try.prog 32 #[.slice A n c, .int .i64 k, .bool ar, .int .i64 key] w fun e w' => e = .returned (.tuple #[.int .i64 0, .int .i64 0, .int .i64 9]) ∧ Ext w w' := by
  unfold maxLen at hcm
  have hm : (k : Int) ≤ max 0 ((n : Int) - 1) := by omega
  obtain ⟨h1, h2, h3, h4, h5, h6, h7, h8, h9, h10, h11⟩ := hkey
  have b1 : (key == 119) = false := by simpa using h1
  have b2 : (key == 87) = false := by simpa using h2
  have b3 : (key == 34) = false := by simpa using h3
  have b4 : (key == 39) = false := by simpa using h4
  have b5 : (key == 96) = false := by simpa using h5
  have b6 : (key == 40) = false := by simpa using h6
  have b7 : (key == 41) = false := by simpa using h7
  have b8 : (key == 91) = false := by simpa using h8
  have b9 : (key == 93) = false := by simpa using h9
  have b10 : (key == 123) = false := by simpa using h10
  have b11 : (key == 125) = false := by simpa using h11
  have he := Ext.alloc w (.cells #[.int .i64 0, .int .i64 0] 92)
  have hbf := Blk.new w 92 #[.int .i64 0, .int .i64 0]
  have c6 := hbf.cell 0
  have c7 := hbf.cell 1
  simp only [List.getElem?_toArray, List.getElem?_cons_zero, List.getElem?_cons_succ] at c6 c7
  clear h1 h2 h3 h4 h5 h6 h7 h8 h9 h10 h11 hbf
  go_enter Try.func32, Try.ntmps32
  go_wp2_with fail
  all_goals
    go_quiet (fail)
    go_wp2_with fail
    go_ret3
    exact ⟨rfl, he.to_drewN _⟩
end Go.Proofs.Ytmhgndjmcignjaa
