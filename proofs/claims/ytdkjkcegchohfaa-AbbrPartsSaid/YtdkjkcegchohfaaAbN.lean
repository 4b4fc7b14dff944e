/-
  Rows of hits; slices.Equal, slices.Contains at hits.
-/
import Derived.Test.YtdkjkcegchohfaaAbH
import Derived.Laws.StructEq
namespace Go.Proofs.Ytdkjkcegchohfaa
open Go.RowKit
set_option linter.unusedVariables false
set_option linter.unusedSimpArgs false
attribute [local go_sem] Oper.semAt_some
def encH (x : Nat × Nat) : List Value := [.int .i64 x.1, .int .i64 x.2]
def hitC (L : List (Nat × Nat)) : List Value := L.flatMap fun p => [.int .i64 p.1, .int .i64 p.2]
theorem hitC_len (L : List (Nat × Nat)) : (hitC L).length = L.length * 2 := by
  induction L with
  | nil => rfl
  | cons a l ih => unfold hitC at ih ⊢; rw [List.flatMap_cons, List.length_append, ih]; simp; omega
theorem hitC_app (L M : List (Nat × Nat)) : hitC (L ++ M) = hitC L ++ hitC M := by simp [hitC]
/-- A row of the call's own, of such pairs. -/
def OwnH (w : World) (base : Nat) (A : Option Addr) (n c : Nat) (L : List (Nat × Nat)) : Prop := Own w base 34 2 A n c (hitC L)
theorem OwnH.len {w : World} {base n c : Nat} {A : Option Addr} {L : List (Nat × Nat)} (h : OwnH w base A n c L) : L.length = n := by
  have := Own.len h
  rw [hitC_len] at this
  omega
theorem info_hit : (Try.prog.info? 34).map (fun i => (i.zero, i.size, i.bytes)) = some (some (.agg #[.int .i64 0, .int .i64 0]), 2, 16) := by kernel_rfl

theorem run_eqH (a b c d : Int) (u : World) : (binOp .eql 34 (.agg #[.int .i64 a, .int .i64 b]) (.agg #[.int .i64 c, .int .i64 d])).run Try.prog u = .ok (.bool (a == c && b == d)) u := by
  by_cases h1 : a = c
  · by_cases h2 : b = d
    · subst h1; subst h2
      simp [go_sem]
    · subst h1
      simp [go_sem, h2]
  · simp [go_sem, h1]
theorem run_neH (a b c d : Int) (u : World) : (binOp .neq 34 (.agg #[.int .i64 a, .int .i64 b]) (.agg #[.int .i64 c, .int .i64 d])).run Try.prog u = .ok (.bool (!(a == c && b == d))) u := by
  by_cases h1 : a = c
  · by_cases h2 : b = d
    · subst h1; subst h2
      simp [go_sem]
    · subst h1
      simp [go_sem, h2]
  · simp [go_sem, h1]

/-- A row of near words, read. -/
def Hrs (w : World) (A : Option Addr) (n c : Nat) (L : List (Nat × Nat)) : Prop := Rd w 2 A n c (hitC L)
theorem hitC_at : ∀ (L : List (Nat × Nat)) (i c : Nat), c < 2 → (hitC L)[i * 2 + c]? = L[i]?.map fun p => (encH p)[c]!
  | [], i, c, _ => by simp [hitC]
  | p :: L, 0, c, h => by
    rcases (show c = 0 ∨ c = 1 by omega) with rfl | rfl <;> simp [hitC, encH]
  | p :: L, i + 1, c, h => by
    have e : (i + 1) * 2 + c = (i * 2 + c) + 2 := by omega
    have e2 : hitC (p :: L) = .int .i64 p.1 :: .int .i64 p.2 :: hitC L := rfl
    rw [e, e2, List.getElem?_cons_succ, List.getElem?_cons_succ, hitC_at L i c h, List.getElem?_cons_succ]
theorem Hrs.len {w : World} {A : Option Addr} {n c : Nat} {L : List (Nat × Nat)} (h : Hrs w A n c L) : L.length = n := by
  have := Rd.len h
  rw [hitC_len] at this
  omega
theorem Hrs.at_ {w : World} {A : Option Addr} {n c : Nat} {L : List (Nat × Nat)} (h : Hrs w A n c L) {k : Nat} (hk : k < n) : ∃ ad x, A = some ad ∧ L[k]? = some x ∧
    w.cell? (ad.add (k * 2)) = some (.int .i64 x.1) ∧ w.cell? ⟨(ad.add (k * 2)).block, (ad.add (k * 2)).off + 1, none⟩ = some (.int .i64 x.2) := by
  obtain ⟨ad, e, hc⟩ := Rd.at_ h hk
  have hl := Hrs.len h
  have hkl : k < L.length := by omega
  have f := fun i hi => hitC_at L k i hi
  refine ⟨ad, L[k], e, List.getElem?_eq_getElem hkl, hc _ _ (by have := f 0 (by omega); rw [List.getElem?_eq_getElem hkl] at this; simpa [encH] using this), ?_⟩
  have := hc _ _ (show (hitC L)[k * 2 + 1]? = some _ by rw [f 1 (by omega), List.getElem?_eq_getElem hkl]; rfl)
  rw [← add_of_add] at this
  exact this
theorem OwnH.nrs {w : World} {base n c : Nat} {A : Option Addr} {L : List (Nat × Nat)} (h : OwnH w base A n c L) : Hrs w A n c L := Own.rd h
theorem Hrs.ext {w w' : World} {A : Option Addr} {n c : Nat} {L : List (Nat × Nat)} (h : Hrs w A n c L) (he : Ext w w') : Hrs w' A n c L := Rd.ext h he

set_option maxRecDepth 20000 in
set_option maxHeartbeats 1000000 in
theorem equalH_same {A B : Option Addr} {n c m d : Nat} {l : List (Nat × Nat)} {w : World} (hl : Hrs w A n c l) (hl' : Hrs w B m d l) :
    Calls Try.prog 12 #[.slice A n c, .slice B m d] w fun e w' => e = .returned (.bool true) ∧ Ext w w' := by
  have h1 := Rd.ncap hl
  have h2 := Rd.nmax hl
  have h3 := Rd.ncap hl'
  have h4 := Rd.nmax hl'
  have e1 := hl.len
  have e2 := hl'.len
  unfold maxLen at h2 h4
  obtain rfl : n = m := by omega
  have hne : ((n : Int) != (n : Int)) = false := by simp
  clear e1 e2
  go_enter Try.func12, Try.ntmps12
  go_wp2_with fail
  go_loopw [13] (fun i wr => ∃ k : Nat, k ≤ n ∧ i = .int .i64 k ∧ ∃ q, wr = w.drewN q) (fun i _ => n - (intOf i).toNat)
  case atStart => exact ⟨0, by omega, rfl, 0, rfl⟩
  case round =>
    obtain ⟨k, hk, rfl, q, rfl⟩ := hrel
    by_cases hlt : k < n
    · obtain ⟨a1, x, rfl, hx, c0, c1⟩ := hl.at_ hlt
      obtain ⟨a2, y, rfl, hy, b0, b1⟩ := hl'.at_ hlt
      obtain rfl : x = y := by rw [hx] at hy; injection hy
      clear hx hy hl hl'
      obtain ⟨x0, x1⟩ := x
      simp only at c0 c1 b0 b1
      go_wp2_with fail
      go_quiet (fail)
      go_wp2_with fail
      go_roundw
      case rel => exact ⟨k + 1, by omega, by go_num, q + nq, rfl⟩
      case measure => simp [intOf]; omega
    · obtain rfl : k = n := by omega
      go_wp2_with fail
      go_ret
      exact ⟨rfl, Ext.drewN _ _⟩

set_option maxRecDepth 20000 in
set_option maxHeartbeats 1000000 in
theorem indexH_ok {A : Option Addr} {n c : Nat} {l : List (Nat × Nat)} {x : Nat × Nat} {w : World} (hl : Hrs w A n c l) :
    Calls Try.prog 38 #[.slice A n c, .agg #[.int .i64 x.1, .int .i64 x.2]] w fun e w' => Ext w w' ∧ ((x ∈ l ∧ ∃ k : Nat, k < n ∧ e = .returned (.int .i64 k)) ∨ (x ∉ l ∧ e = .returned (.int .i64 (-1)))) := by
  have h1 := Rd.ncap hl
  have h2 := Rd.nmax hl
  have HN := Lib.hid hl.len
  unfold maxLen at h2
  obtain ⟨x0, x1⟩ := x
  have hl1 := hl.ext (Ext.alloc w (.cells #[.int .i64 x0, .int .i64 x1] 34))
  have bX := Blk.new w 34 #[.int .i64 x0, .int .i64 x1]
  have hxw := Ext.alloc w (.cells #[.int .i64 x0, .int .i64 x1] 34)
  clear hl
  go_enter Try.func38, Try.ntmps38
  go_wp2_with fail
  generalize hW : w.alloc (.cells #[.int .i64 x0, .int .i64 x1] 34) = W at *
  have X0 : W.cell? ⟨w.heap.size, 0, none⟩ = some (.int .i64 x0) := by rw [bX.cell 0]; rfl
  have X1 : W.cell? ⟨w.heap.size, 1, none⟩ = some (.int .i64 x1) := by rw [bX.cell 1]; rfl
  clear hW
  go_loopw [8] (fun i wr => ∃ k : Nat, k ≤ n ∧ i = .int .i64 k ∧ Hid ((x0, x1) ∉ l.take k) ∧ ∃ q, wr = W.drewN q) (fun i _ => n - (intOf i).toNat)
  case atStart => exact ⟨0, by omega, rfl, Lib.hid (by simp), 0, rfl⟩
  case round =>
    obtain ⟨k, hk, rfl, HK, q, rfl⟩ := hrel
    by_cases hlt : k < n
    · obtain ⟨a1, y, rfl, hy, c0, c1⟩ := hl1.at_ hlt
      have HY := Lib.hid hy
      obtain ⟨y0, y1⟩ := y
      simp only at c0 c1
      clear hy hl1 bX
      by_cases he : x0 = y0 ∧ x1 = y1
      · obtain ⟨rfl, rfl⟩ := he
        go_wp2_with fail
        go_quiet (fail)
        go_wp2_with fail
        go_ret
        exact ⟨hxw.trans ((Ext.drewN _ _).to_drewN _), .inl ⟨List.mem_of_getElem? HY.out, k, hlt, rfl⟩⟩
      · have HE := Lib.hid he
        have hq := run_eqH x0 x1 y0 y1
        have hb : ((x0 : Int) == y0 && (x1 : Int) == y1) = false := by
          rw [Bool.eq_false_iff]; simp; omega
        rw [hb] at hq
        clear he hb
        go_wp2_with fail
        go_quiet (fail)
        go_wp2_with fail
        go_roundw
        case rel =>
          refine ⟨k + 1, by omega, by go_num, Lib.hid ?_, q + nq, rfl⟩
          rw [List.take_add_one, HY.out]
          simp only [Option.toList, List.mem_append, List.mem_singleton, Prod.mk.injEq, not_or]
          exact ⟨HK.out, HE.out⟩
        case measure => simp [intOf]; omega
    · obtain rfl : k = n := by omega
      have HM : Hid ((x0, x1) ∉ l) := Lib.hid (by have := HK.out; rwa [List.take_of_length_le (by rw [HN.out]; exact Nat.le_refl _)] at this)
      go_wp2_with fail
      go_ret
      exact ⟨hxw.trans (Ext.drewN _ _), .inr ⟨HM.out, rfl⟩⟩

set_option maxRecDepth 20000 in
set_option maxHeartbeats 1000000 in
theorem containsH_ok {A : Option Addr} {n c : Nat} {l : List (Nat × Nat)} {x : Nat × Nat} {w : World} (hl : Hrs w A n c l) :
    Calls Try.prog 14 #[.slice A n c, .agg #[.int .i64 x.1, .int .i64 x.2]] w fun e w' => e = .returned (.bool (decide (x ∈ l))) ∧ Ext w w' := by
  have hxw := Ext.alloc w (.cells #[.int .i64 x.1, .int .i64 x.2] 34)
  have hc := indexH_ok (x := x) (hl.ext hxw)
  go_enter Try.func14, Try.ntmps14
  go_wp2_with fail
  refine hc.mono ?_
  rintro e w1 ⟨he, ⟨hm, k, hk, rfl⟩ | ⟨hm, rfl⟩⟩
  · have HM := Lib.hid hm
    clear hm
    go_wp2_with fail
    go_ret
    exact ⟨ret_bool (by simp [HM.out]), hxw.trans he⟩
  · have HM := Lib.hid hm
    clear hm
    go_wp2_with fail
    go_ret
    exact ⟨ret_bool (by simp [HM.out]), hxw.trans he⟩
end Go.Proofs.Ytdkjkcegchohfaa
