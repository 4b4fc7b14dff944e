/-
  motion.Check and motion.Go at '%': the walks.
-/
import Derived.Test.YtmhgndjmcignjaaZMotP

namespace Go.Proofs.Ytmhgndjmcignjaa
open Go.RowKit
set_option linter.unusedVariables false
set_option linter.unusedSimpArgs false

set_option maxRecDepth 20000 in
set_option maxHeartbeats 1000000 in
theorem mcheck_ok {A : Option Addr} {n c : Nat} {k : Nat} {w : World} (hnc : n ≤ c) (hcm : c ≤ maxLen) (hn : n ≤ 4096) (hk : k = 0 ∨ k < n) :
    Calls Try.prog 50 #[.slice A n c, .int .i64 k, .agg #[.int .i64 37, .int .i64 0, .int .i64 0]] w fun e w' => e = .returned (.int .i64 0) ∧ Ext w w' := by
  unfold maxLen at hcm
  have hm : (k : Int) ≤ if (1 : Int) < n then (n : Int) - 1 else 0 := by split <;> omega
  have HK := Lib.hid (known37 (w.alloc (.cells #[.int .i64 37, .int .i64 0, .int .i64 0] 80)))
  go_enter Try.func50, Try.ntmps50
  go_wp2_with fail
  all_goals
    refine HK.out.mono ?_
    rintro e w1 ⟨rfl, rfl⟩
    go_wp2_with fail
    go_ret
    exact ⟨rfl, Ext.alloc _ _⟩

set_option maxRecDepth 20000 in
set_option maxHeartbeats 1000000 in
theorem mcheck_large {A : Option Addr} {n c : Nat} {k : Int} {w : World} (hnc : n ≤ c) (hcm : c ≤ maxLen) (h0 : 4096 < n) :
    Calls Try.prog 50 #[.slice A n c, .int .i64 k, .agg #[.int .i64 37, .int .i64 0, .int .i64 0]] w fun e w' => e = .returned (.int .i64 2) ∧ Ext w w' := by
  unfold maxLen at hcm
  go_enter Try.func50, Try.ntmps50
  go_wp2_with fail
  go_ret
  exact ⟨rfl, Ext.alloc _ _⟩

set_option maxRecDepth 20000 in
set_option maxHeartbeats 1000000 in
theorem mcheck_out {A : Option Addr} {n c : Nat} {k : Int} {w : World} (hnc : n ≤ c) (hcm : c ≤ maxLen) (h0 : n ≤ 4096) (h : k < 0 ∨ (0 < k ∧ (n : Int) ≤ k)) :
    Calls Try.prog 50 #[.slice A n c, .int .i64 k, .agg #[.int .i64 37, .int .i64 0, .int .i64 0]] w fun e w' => e = .returned (.int .i64 1) ∧ Ext w w' := by
  unfold maxLen at hcm
  rcases h with h1 | ⟨h1, h2⟩
  · go_enter Try.func50, Try.ntmps50
    go_wp2_with fail
    all_goals
      go_ret
      exact ⟨rfl, Ext.alloc _ _⟩
  · go_enter Try.func50, Try.ntmps50
    go_wp2_with fail
    all_goals first
      | (exfalso; omega)
      | (go_ret
         exact ⟨rfl, Ext.alloc _ _⟩)
      | (exfalso; rename_i hh _; split at hh <;> omega)
      | (exfalso; rename_i hh; split at hh <;> omega)

set_option maxRecDepth 20000 in
set_option maxHeartbeats 2000000 in
theorem mgo_err {A : Option Addr} {n c : Nat} {k : Int} {er : Int} {w : World} (hC : Hid (∀ w : World, Calls Try.prog 50 #[.slice A n c, .int .i64 k, .agg #[.int .i64 37, .int .i64 0, .int .i64 0]] w fun e w' => e = .returned (.int .i64 er) ∧ Ext w w')) (her : (er != 0) = true) :
    Calls Try.prog 37 #[.slice A n c, .int .i64 k, .agg #[.int .i64 37, .int .i64 0, .int .i64 0], .bool false] w fun e w' => e = .returned (.tuple #[.int .i64 0, .bool false, .int .i64 er]) ∧ Ext w w' := by
  go_enter Try.func37, Try.ntmps37
  go_wp2_with fail
  refine (hC.out _).mono ?_
  rintro e w1 ⟨rfl, he1⟩
  go_wp2_with fail
  go_ret3
  exact ⟨rfl, (Ext.alloc _ _).trans he1⟩

set_option maxRecDepth 20000 in
set_option maxHeartbeats 4000000 in
theorem mgo_ok {l : List Int} {A : Option Addr} {n c : Nat} {k : Nat} {w : World} (hl : Ints w A n c l) (wl : ∀ x ∈ l, (Lit.int .i64 x).wf = true) (hn : n ≤ 4096) (hk : k = 0 ∨ k < n) :
    Calls Try.prog 37 #[.slice A n c, .int .i64 k, .agg #[.int .i64 37, .int .i64 0, .int .i64 0], .bool false] w fun e w' => ((∃ i m : Nat, foundP l k i m ∧ e = .returned (.tuple #[.int .i64 m, .bool true, .int .i64 0])) ∨
      (noP l k ∧ e = .returned (.tuple #[.int .i64 0, .bool false, .int .i64 5]))) ∧ Ext w w' := by
  have hnc := hl.ncap
  have hcm := hl.nmax
  have hkn : k ≤ n := by omega
  have WL := Lib.hid wl
  clear wl
  have hx := Ext.alloc w (.cells #[.int .i64 37, .int .i64 0, .int .i64 0] 80)
  have hb := Blk.new w 80 #[.int .i64 37, .int .i64 0, .int .i64 0]
  have HC := Lib.hid (mcheck_ok (A := A) (k := k) (w := w.alloc (.cells #[.int .i64 37, .int .i64 0, .int .i64 0] 80)) hnc hcm hn hk)
  clear hk
  go_enter Try.func37, Try.ntmps37
  go_wp2_with fail
  refine HC.out.mono ?_
  rintro e w1 ⟨rfl, he1⟩
  have hb1 := hb.ext he1
  have he := hx.trans he1
  have hl1 := hl.ext he
  have c0 := hb1.cell 0
  have c1 := hb1.cell 1
  simp only [List.getElem?_toArray, List.getElem?_cons_zero, List.getElem?_cons_succ] at c0 c1
  clear HC hx hb he1 hl
  have hws := he.hsize
  have hx2 : Ext w1 ((w1.alloc (.cells #[.slice A n c, .int .i64 k, .int .i64 1, .bool false] 99)).alloc (.cells #[.int .i64 0, .bool false] 101)) := (Ext.alloc _ _).to_alloc _
  have c2 := hx2.cell c0
  have hb3 := (Blk.new w1 99 #[.slice A n c, .int .i64 k, .int .i64 1, .bool false]).ext (Ext.alloc _ (.cells #[.int .i64 0, .bool false] 101))
  have hb4 : Blk ((w1.alloc (.cells #[.slice A n c, .int .i64 k, .int .i64 1, .bool false] 99)).alloc (.cells #[.int .i64 0, .bool false] 101)) (w1.heap.size + 1) 101 #[.int .i64 0, .bool false] := by
    simpa using Blk.new (w1.alloc (.cells #[.slice A n c, .int .i64 k, .int .i64 1, .bool false] 99)) 101 #[.int .i64 0, .bool false]
  have HP := Lib.hid (plain_ok (k := k) (g := 1) (op := false) (hl1.ext hx2) WL.out hn hkn)
  clear hl1 WL
  go_wp2_with fail
  refine (known37 _).mono ?_
  rintro e w2 ⟨rfl, rfl⟩
  go_wp2_with fail
  all_goals
    refine HP.out.mono ?_
    rintro e w3 ⟨⟨i, m, hf, rfl⟩ | ⟨hf, rfl⟩, he3⟩
    · have HF := Lib.hid hf
      have hq := hb4.ext he3
      have f0 := hq.frozen 0
      have f1 := hq.frozen 1
      have c4 := hq.cell 0
      have c5 := hq.cell 1
      simp only [List.getElem?_toArray, List.getElem?_cons_zero, List.getElem?_cons_succ] at c4 c5
      clear hf HP hb4 hb3 c0 c1 c2 hb1
      go_wp2_with fail
      have hbf : Blk ((w3.setCell ⟨w1.heap.size + 1, 0, none⟩ (.int .i64 ((m : Int)))).setCell ⟨w1.heap.size + 1, 1, none⟩ (.bool true)) (w1.heap.size + 1) 101 #[.int .i64 ((m : Int)), .bool true] := by
        simpa using (hq.set_ 0 (.int .i64 ((m : Int)))).set_ 1 (.bool true)
      have hef := ((he.trans (hx2.trans he3)).setCell (p := ⟨w1.heap.size + 1, 0, none⟩) (Nat.le_succ_of_le hws) (.int .i64 ((m : Int)))).setCell (p := ⟨w1.heap.size + 1, 1, none⟩) (Nat.le_succ_of_le hws) (.bool true)
      clear c4 c5 f0 f1 hq
      revert hbf hef
      generalize (w3.setCell ⟨w1.heap.size + 1, 0, none⟩ (.int .i64 ((m : Int)))).setCell ⟨w1.heap.size + 1, 1, none⟩ (.bool true) = w4
      intro hbf hef
      have c6 := hbf.cell 0
      have c7 := hbf.cell 1
      simp only [List.getElem?_toArray, List.getElem?_cons_zero, List.getElem?_cons_succ] at c6 c7
      clear hbf
      go_quiet (fail)
      go_wp2_with fail
      go_ret3
      exact ⟨.inl ⟨i, m, HF.out, rfl⟩, hef.to_drewN _⟩
    · have HF := Lib.hid hf
      have hq := hb4.ext he3
      have f0 := hq.frozen 0
      have f1 := hq.frozen 1
      have c4 := hq.cell 0
      have c5 := hq.cell 1
      simp only [List.getElem?_toArray, List.getElem?_cons_zero, List.getElem?_cons_succ] at c4 c5
      clear hf HP hb4 hb3 c0 c1 c2 hb1
      go_wp2_with fail
      have hbf : Blk ((w3.setCell ⟨w1.heap.size + 1, 0, none⟩ (.int .i64 (0))).setCell ⟨w1.heap.size + 1, 1, none⟩ (.bool false)) (w1.heap.size + 1) 101 #[.int .i64 (0), .bool false] := by
        simpa using (hq.set_ 0 (.int .i64 (0))).set_ 1 (.bool false)
      have hef := ((he.trans (hx2.trans he3)).setCell (p := ⟨w1.heap.size + 1, 0, none⟩) (Nat.le_succ_of_le hws) (.int .i64 (0))).setCell (p := ⟨w1.heap.size + 1, 1, none⟩) (Nat.le_succ_of_le hws) (.bool false)
      clear c4 c5 f0 f1 hq
      revert hbf hef
      generalize (w3.setCell ⟨w1.heap.size + 1, 0, none⟩ (.int .i64 (0))).setCell ⟨w1.heap.size + 1, 1, none⟩ (.bool false) = w4
      intro hbf hef
      have c6 := hbf.cell 0
      have c7 := hbf.cell 1
      simp only [List.getElem?_toArray, List.getElem?_cons_zero, List.getElem?_cons_succ] at c6 c7
      clear hbf
      go_quiet (fail)
      go_wp2_with fail
      go_ret3
      exact ⟨.inr ⟨HF.out, rfl⟩, hef.to_drewN _⟩
end Go.Proofs.Ytmhgndjmcignjaa
