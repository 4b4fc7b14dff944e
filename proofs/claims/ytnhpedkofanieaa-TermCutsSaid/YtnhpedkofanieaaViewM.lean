/-
  view: Scroll, Cell, must: the walks.
-/
import Derived.Test.YtnhpedkofanieaaLib
namespace Go.Proofs.Ytnhpedkofanieaa
open Go.RowKit
set_option linter.unusedVariables false

def badS (n at_ off width : Int) : Prop := n < 0 ∨ n > 200 ∨ at_ < 0 ∨ at_ > n ∨ off < 0 ∨ off > 200 ∨ width < 2 ∨ width > 120
instance (n at_ off width : Int) : Decidable (badS n at_ off width) := by unfold badS; exact inferInstance
def scK (at_ off width : Int) : Int := if at_ < off then at_ else if at_ ≥ off + width then at_ - width + 1 else off
def cellF (c : Int) : Int := if c < 32 ∨ c = 127 ∨ c = 65533 then 63 else c
theorem cellF_good (c : Int) : 32 ≤ cellF c ∧ cellF c ≠ 127 := by unfold cellF; split <;> omega
theorem ret_tup {a b c : Int} (h : a = b) : Ending.returned (.tuple #[.int .i64 a, .int .i64 c]) = .returned (.tuple #[.int .i64 b, .int .i64 c]) := by rw [h]

set_option maxHeartbeats 4000000 in
theorem scroll_bad {n at_ off width : Int} {w : World} (h : badS n at_ off width) :
    Calls Try.prog 8 #[.int .i64 n, .int .i64 at_, .int .i64 off, .int .i64 width] w fun e w' => e = .returned (.tuple #[.int .i64 0, .int .i64 1]) ∧ w' = w := by
  unfold badS at h
  go_enter Try.func8, Try.ntmps8
  go_wp2_with fail
  all_goals first
    | (exfalso; omega)
    | (go_ret2; exact ⟨rfl, rfl⟩)

set_option maxHeartbeats 4000000 in
theorem scroll_good {n at_ off width : Int} {w : World} (h : ¬ badS n at_ off width) :
    Calls Try.prog 8 #[.int .i64 n, .int .i64 at_, .int .i64 off, .int .i64 width] w fun e w' => e = .returned (.tuple #[.int .i64 (scK at_ off width), .int .i64 0]) ∧ w' = w := by
  unfold badS at h
  have h1 : 0 ≤ n := by omega
  have h2 : n ≤ 200 := by omega
  have h3 : 0 ≤ at_ := by omega
  have h4 : at_ ≤ n := by omega
  have h5 : 0 ≤ off := by omega
  have h6 : off ≤ 200 := by omega
  have h7 : 2 ≤ width := by omega
  have h8 : width ≤ 120 := by omega
  clear h
  go_enter Try.func8, Try.ntmps8
  go_wp2_with fail
  all_goals (go_ret2; refine ⟨ret_tup ?_, rfl⟩; unfold scK; (repeat' split) <;> omega)

set_option maxHeartbeats 4000000 in
theorem cell_ok (c : Int) (w : World) : Calls Try.prog 11 #[.int .i64 c] w fun e w' => e = .returned (.int .i64 (cellF c)) ∧ w' = w := by
  have HF : Hid (∀ v, ((c < 32 ∨ c = 127 ∨ c = 65533) → v = 63) → (¬ (c < 32 ∨ c = 127 ∨ c = 65533) → v = c) → v = cellF c) := Lib.hid (fun v h1 h2 => by
    unfold cellF; split
    · exact h1 ‹_›
    · exact h2 ‹_›)
  rcases Decidable.em (c = 127) with h | h
  · subst h
    go_enter Try.func11, Try.ntmps11
    go_wp2_with fail
    go_ret
    exact ⟨rfl, rfl⟩
  rcases Decidable.em (c = 65533) with g | g
  · subst g
    go_enter Try.func11, Try.ntmps11
    go_wp2_with fail
    go_ret
    exact ⟨rfl, rfl⟩
  have b1 : (c == 127) = false := by simpa using h
  have b2 : (c == 65533) = false := by simpa using g
  have H1 := Lib.hid h
  have H2 := Lib.hid g
  clear h g
  go_enter Try.func11, Try.ntmps11
  go_wp2_with fail
  all_goals (go_ret; have h1 := H1.out; have h2 := H2.out; refine ⟨ret_int (HF.out _ ?_ ?_), rfl⟩ <;> intro hh <;> first | rfl | omega)

set_option maxHeartbeats 4000000 in
theorem must_ok {n at_ off width : Int} {w : World} (h : ¬ badS n at_ off width) (hk : scK at_ off width = off) :
    Calls Try.prog 23 #[.int .i64 n, .int .i64 at_, .int .i64 off, .int .i64 width] w fun e w' => e = .returned (.int .i64 0) ∧ w' = w := by
  go_enter Try.func23, Try.ntmps23
  go_wp2_with fail
  refine (scroll_good h).mono ?_
  rintro e w1 ⟨rfl, rfl⟩
  rw [hk]
  clear hk h
  go_wp2_with fail
  go_ret
  exact ⟨rfl, rfl⟩

def goodC (c : Int) : Prop := 32 ≤ c ∧ c ≠ 127
set_option maxHeartbeats 4000000 in
theorem chk1_ok {c : Int} {w : World} (h : goodC c) : Calls Try.prog 25 #[.int .i64 c] w fun e w' => e = .returned (.bool false) ∧ w' = w := by
  obtain ⟨h1, h2⟩ := h
  have h3 : (c == 127) = false := by simpa using h2
  have h4 : decide (c < 32) = false := by simpa using h1
  clear h2
  go_enter Try.func25, Try.ntmps25
  go_wp2_with fail
  go_ret
  exact ⟨rfl, rfl⟩

set_option maxHeartbeats 1000000 in
theorem idxf_ok {A : Option Addr} {n c : Nat} {l : List Int} {w : World} (hl : Ints w A n c l) (hg : ∀ k, k < n → goodC (gI l k)) :
    Calls Try.prog 33 #[.slice A n c, .func (.func 25) #[] #[]] w fun e w' => e = .returned (.int .i64 (-1)) ∧ w' = w := by
  have h1 := hl.ncap
  have h2 := hl.nmax
  unfold maxLen at h2
  have HG := Lib.hid hg
  clear hg
  go_enter Try.func33, Try.ntmps33
  go_wp2_with fail
  go_loopw [8] (fun i wr => ∃ k : Nat, k ≤ n ∧ i = .int .i64 k ∧ wr = w) (fun i _ => n - (intOf i).toNat)
  case atStart => exact ⟨0, by omega, rfl, rfl⟩
  case round =>
    obtain ⟨k, hk, rfl, rfl⟩ := hrel
    by_cases hlt : k < n
    · obtain ⟨a1, rfl, hc1⟩ := hl.at_ hlt
      have c1 := hc1 k hlt
      clear hc1
      go_wp2_with fail
      refine (chk1_ok (HG.out k hlt)).mono ?_
      rintro e w1 ⟨rfl, rfl⟩
      go_wp2_with fail
      go_roundw
      case rel => exact ⟨k + 1, by omega, by go_num, trivial⟩
      case measure => simp [intOf]; omega
    · obtain rfl : k = n := by omega
      go_wp2_with fail
      go_ret
      exact ⟨rfl, rfl⟩
set_option maxHeartbeats 1000000 in
theorem contf_ok {A : Option Addr} {n c : Nat} {l : List Int} {w : World} (hl : Ints w A n c l) (hg : ∀ k, k < n → goodC (gI l k)) :
    Calls Try.prog 24 #[.slice A n c, .func (.func 25) #[] #[]] w fun e w' => e = .returned (.bool false) ∧ w' = w := by
  have h1 := hl.ncap
  have h2 := hl.nmax
  unfold maxLen at h2
  have HG := Lib.hid hg
  clear hg
  go_enter Try.func24, Try.ntmps24
  go_wp2_with fail
  refine (idxf_ok hl HG.out).mono ?_
  rintro e w1 ⟨rfl, rfl⟩
  go_wp2_with fail
  go_ret
  exact ⟨rfl, rfl⟩

set_option maxHeartbeats 1000000 in
theorem check_ok {A : Option Addr} {n c : Nat} {l : List Int} {at_ : Int} {w : World} (hl : Ints w A n c l) (hg : ∀ k, k < n → goodC (gI l k)) (h1 : 2 ≤ n) (h2 : n ≤ 120) (h3 : 0 ≤ at_) (h4 : at_ ≤ n) :
    Calls Try.prog 10 #[.agg #[.slice A n c, .int .i64 at_]] w fun e w' => e = .returned (.int .i64 0) ∧ Ext w w' := by
  have hnc := hl.ncap
  have hcm := hl.nmax
  unfold maxLen at hcm
  have HG := Lib.hid hg
  clear hg
  go_enter Try.func10, Try.ntmps10
  go_wp2_with fail
  refine (contf_ok (hl.ext (Ext.alloc _ _)) HG.out).mono ?_
  rintro e w1 ⟨rfl, rfl⟩
  go_wp2_with fail
  go_ret
  exact ⟨rfl, Ext.alloc _ _⟩

/-- A write to another block. -/
theorem Blk.keepCell {w : World} {g t : Nat} {cs : Array Value} (h : Blk w g t cs) {p : Addr} (hp : p.block ≠ g) (u : Value) : Blk (w.setCell p u) g t cs := by
  unfold Blk at h ⊢
  unfold World.setCell
  simp only [Array.getElem?_modify, hp, if_false, h]

/-- The cells of a row that shows a line. -/
def cellAt (l : List Int) (k : Int) (i : Nat) : Int := if k + i < l.length then cellF (gI l (k + i).toNat) else 32
def rowL (l : List Int) (k : Int) (n : Nat) : List Int := (List.range n).map (cellAt l k)
theorem rowL_succ (l : List Int) (k : Int) (n : Nat) : rowL l k (n + 1) = rowL l k n ++ [cellAt l k n] := by unfold rowL; rw [List.range_succ, List.map_append]; rfl
theorem rowL_len (l : List Int) (k : Int) (n : Nat) : (rowL l k n).length = n := by unfold rowL; simp
theorem rowL_at (l : List Int) (k : Int) {n i : Nat} (h : i < n) : gI (rowL l k n) i = cellAt l k i := by unfold rowL gI; simp [h]
theorem cellAt_good (l : List Int) (k : Int) (i : Nat) : goodC (cellAt l k i) := by
  unfold cellAt goodC
  split
  · exact cellF_good _
  · omega

set_option maxHeartbeats 4000000 in
theorem row_ok {A : Option Addr} {n c : Nat} {l : List Int} {at_ k : Int} {width : Nat} {w : World} (hl : Ints w A n c l) (h : ¬ badS n at_ k width) (hk : scK at_ k width = k) :
    Calls Try.prog 9 #[.slice A n c, .int .i64 at_, .int .i64 k, .int .i64 width] w fun e w' => ∃ B d, e = .returned (.tuple #[.agg #[.slice B width d, .int .i64 (at_ - k)], .int .i64 0]) ∧ OwnI w' w.heap.size B width d (rowL l k width) ∧ Ext w w' := by
  obtain ⟨i0, hi, hz0, hz1, hz2⟩ := info_parts info_int
  have HB := Lib.hid h
  have HK := Lib.hid hk
  have hlen := Lib.hid hl.len
  unfold badS at h
  have h1 : (n : Int) ≤ 200 := by omega
  have h2 : 0 ≤ at_ := by omega
  have h3 : at_ ≤ n := by omega
  have h4 : 0 ≤ k := by omega
  have h5 : k ≤ 200 := by omega
  have h6 : 2 ≤ width := by omega
  have h7 : width ≤ 120 := by omega
  clear h hk
  obtain ⟨kn, rfl⟩ := Int.eq_ofNat_of_zero_le h4
  have hnc := hl.ncap
  have hcm := hl.nmax
  unfold maxLen at hcm
  go_enter Try.func9, Try.ntmps9
  go_wp2_with fail
  refine (must_ok HB.out HK.out).mono ?_
  rintro e w1 ⟨rfl, rfl⟩
  go_wp2_with fail
  go_loopw [33] (fun i wr => ∃ (j : Nat) (B : Option Addr) (d : Nat), j ≤ width ∧ i = .int .i64 j ∧ Blk wr w.heap.size 27 #[.slice none 0 0, .int .i64 0] ∧ Blk wr (w.heap.size + 1) 27 #[.slice B j d, .int .i64 (at_ - kn)] ∧ OwnI wr (w.heap.size + 2) B j d (rowL l kn j) ∧ Ext w wr) (fun i _ => width - (intOf i).toNat)
  case atStart =>
    refine ⟨0, none, 0, by omega, rfl, (Blk.new _ _ _).ext (Ext.alloc _ _), ?_, OwnI.nil _ _, (Ext.alloc _ _).to_alloc _⟩
    have := Blk.new (w.alloc (Obj.cells #[Value.slice none 0 0, Value.int IntKind.i64 0] 27)) 27 #[Value.slice none 0 0, Value.int IntKind.i64 (at_ - kn)]
    simpa using this
  case round =>
    obtain ⟨j, B, d, hj, rfl, hb0, hb1, hown, he⟩ := hrel
    have f1' := hb1.frozen 0
    have c1 := hb1.cell 0
    have hbs := hb1.lt
    simp only [List.getElem?_toArray, List.getElem?_cons_zero, List.getElem?_cons_succ] at c1
    by_cases hlt : j < width
    · by_cases hin : kn + j < n
      · have hv := Lib.hid (show cellAt l kn j = cellF (gI l (kn + j)) by unfold cellAt; rw [if_pos (by rw [hlen.out]; omega)]; congr 2)
        obtain ⟨ad, rfl, hc⟩ := hl.at_ hin
        have ca := he.cell (hc _ hin)
        clear hc
        go_wp2_with fail
        refine (cell_ok _ _).mono ?_
        rintro e w1 ⟨rfl, rfl⟩
        clear ca
        go_wp2_with (at_builtin; refine wpList_push rfl (.tmp 50) (.tmp 52) 22 rfl w (w.heap.size + 2) 3 i0 (.int .i64 0) 1 8 Try.underlying22 hi hz0 hz1 hz2 rfl (by decide) B j d _ rfl hown #[.int .i64 (cellF (gI l (kn + j)))] rfl ?_ rfl ?_ ?_ he (by omega) hbs ?_)
        · rfl
        · unfold maxLen; omega
        · omega
        · intro B' d2 w2 hown' hgr _ he'
          have hown2 : OwnI w2 (w.heap.size + 2) B' (j + 1) d2 (rowL l kn (j + 1)) := by
            rw [rowL_succ, hv.out]; simpa [OwnI] using hown'
          have g0 := hb0.grown hgr (fun e => by have := (Own.blk hown _ e.symm).1; omega)
          have g1 := hb1.grown hgr (fun e => by have := (Own.blk hown _ e.symm).1; omega)
          have f1 := g1.frozen 0
          have c3 := g1.cell 0
          simp only [List.getElem?_toArray, List.getElem?_cons_zero, List.getElem?_cons_succ] at c3
          clear hown hown' hgr he c1 hb0 hb1 f1'
          go_wp2_with fail
          exact ⟨⟨j + 1, B', d2, by omega, by go_num, (g0.keepCell (by simp) _), by simpa using g1.set_ 0 (.slice B' (j + 1) d2), Own.setCell hown2 (by simp) _, he'.setCell (by simp) _⟩, by simp [intOf]; omega⟩
      · have hv := Lib.hid (show cellAt l kn j = 32 by unfold cellAt; rw [if_neg (by rw [hlen.out]; omega)])
        go_wp2_with (at_builtin; refine wpList_push rfl (.tmp 50) (.tmp 52) 22 rfl w (w.heap.size + 2) 3 i0 (.int .i64 0) 1 8 Try.underlying22 hi hz0 hz1 hz2 rfl (by decide) B j d _ rfl hown #[.int .i64 (32)] rfl ?_ rfl ?_ ?_ he (by omega) hbs ?_)
        · rfl
        · unfold maxLen; omega
        · omega
        · intro B' d2 w2 hown' hgr _ he'
          have hown2 : OwnI w2 (w.heap.size + 2) B' (j + 1) d2 (rowL l kn (j + 1)) := by
            rw [rowL_succ, hv.out]; simpa [OwnI] using hown'
          have g0 := hb0.grown hgr (fun e => by have := (Own.blk hown _ e.symm).1; omega)
          have g1 := hb1.grown hgr (fun e => by have := (Own.blk hown _ e.symm).1; omega)
          have f1 := g1.frozen 0
          have c3 := g1.cell 0
          simp only [List.getElem?_toArray, List.getElem?_cons_zero, List.getElem?_cons_succ] at c3
          clear hown hown' hgr he c1 hb0 hb1 f1'
          go_wp2_with fail
          exact ⟨⟨j + 1, B', d2, by omega, by go_num, (g0.keepCell (by simp) _), by simpa using g1.set_ 0 (.slice B' (j + 1) d2), Own.setCell hown2 (by simp) _, he'.setCell (by simp) _⟩, by simp [intOf]; omega⟩
    · obtain rfl : j = width := by omega
      have c2 := hb1.cell 1
      have f0 := hb0.frozen 0
      have f00 := hb0.frozen 1
      have c4 := hb0.cell 0
      have c5 := hb0.cell 1
      simp only [List.getElem?_toArray, List.getElem?_cons_zero, List.getElem?_cons_succ] at c2 c4 c5
      go_wp2_with fail
      have hbf : Blk ((wr.setCell ⟨w.heap.size, 0, none⟩ (.slice B j d)).setCell ⟨w.heap.size, 1, none⟩ (.int .i64 (at_ - kn))) w.heap.size 27 #[.slice B j d, .int .i64 (at_ - kn)] := by
        simpa using (hb0.set_ 0 (.slice B j d)).set_ 1 (.int .i64 (at_ - kn))
      have c6 := hbf.cell 0
      have c7 := hbf.cell 1
      simp only [List.getElem?_toArray, List.getElem?_cons_zero, List.getElem?_cons_succ] at c6 c7
      clear c1 c2 c4 c5 f0 f00
      refine bodyPost_ret (by simp [results, Try.results9, go_sem, c6, c7]; try rfl) rfl ?_
      exact ⟨B, d, rfl, Own.lower (Own.setCell (Own.setCell hown (by simp) _) (by simp) _) (by omega), (he.setCell (by simp) _).setCell (by simp) _⟩

end Go.Proofs.Ytnhpedkofanieaa
