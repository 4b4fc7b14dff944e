/-
  The machine in memory: the walks of broken and take.
-/
import Derived.Test.YtbgegkagnahlpaaFeedW
namespace Go.Proofs.Ytbgegkagnahlpaa
open Go.RowKit
set_option linter.unusedVariables false
set_option linter.unusedSimpArgs false

/-- Rows of two kinds lie in two blocks. -/
theorem Own.apart {w : World} {base base' e e' z z' n n' c c' : Nat} {A A' : Option Addr} {xs ys : List Value} (h : Own w base e z A n c xs) (h' : Own w base' e' z' A' n' c' ys) (hne : e ≠ e') :
    (Value.slice A n c).ownBlock = none ∨ (Value.slice A n c).ownBlock ≠ (Value.slice A' n' c').ownBlock := by
  rcases h.2 with ⟨hv, _⟩ | ⟨g, cap, cur, hv, _, hg, _⟩
  · left; rw [hv]; rfl
  · right
    rcases h'.2 with ⟨hv', _⟩ | ⟨g', cap', cur', hv', _, hg', _⟩
    · rw [hv, hv']; simp [Value.ownBlock]
    · rw [hv, hv']
      intro e
      simp [Value.ownBlock] at e
      subst e
      rw [hg] at hg'
      injection hg' with hg'
      injection hg' with _ h2
      exact hne h2

/-- The machine. -/
def MachAt (w : World) (g : Nat) (m : Mch) : Prop :=
  ∃ A n c O q d, Blk w g 58 #[.slice A n c, .slice O q d] ∧ Own w (g + 1) 5 1 A n c (m.ah.map bv) ∧ OwnI w (g + 1) O q d m.out
theorem MachAt.ext {w w' : World} {g : Nat} {m : Mch} (h : MachAt w g m) (he : Ext w w') : MachAt w' g m := by
  obtain ⟨A, n, c, O, q, d, h1, h2, h3⟩ := h
  exact ⟨A, n, c, O, q, d, h1.ext he, Own.ext h2 he, OwnI.ext h3 he⟩

theorem conv_bytes {w : World} {n c : Nat} {A : Option Addr} {ah : List Nat} (hr : Rd w 1 A n c (ah.map bv)) :
    (convert 43 9 (.slice A n c)).run Try.prog w = .ok (.string (strN ah)) w := by
  have hl : ah.length = n := by have := hr.len; rw [List.length_map] at this; omega
  have hfold : ∀ (l : List Nat) (s : ByteArray), (l.map (fun b : Nat => (b : Int))).foldl (fun r n => r.push (UInt8.ofNat n.toNat)) s = s ++ strN l := by
    intro l
    induction l with
    | nil => intro s; have : strN [] = ByteArray.empty := rfl; rw [this]; simp
    | cons b l ih =>
      intro s
      rw [List.map_cons, List.foldl_cons, ih]
      apply ByteArray.ext
      simp [strN, ByteArray.data_append]
  rw [run_convert_bytes_string w _ _ 5 _ _ _ Try.underlying43 Try.underlying5 Try.underlying9]
  cases A with
  | none =>
    have h0 : n = 0 := by
      rcases Nat.eq_zero_or_pos n with h | h
      · exact h
      · obtain ⟨ad, e, _⟩ := hr.at_ (k := 0) h; cases e
    subst h0
    obtain rfl : ah = [] := List.length_eq_zero_iff.1 hl
    rfl
  | some a =>
    have hc : ∀ j, j < n → w.cell? (a.add j) = some (.int .u8 ((ah.map (fun b : Nat => (b : Int))).getD j 0)) := by
      intro j hj
      obtain ⟨a', e, hc⟩ := bv_at hr hj
      injection e with e
      subst e
      rw [hc]
      simp [gN, List.getD, List.getElem?_eq_getElem (show j < ah.length by omega)]
    have hload := run_loadCells (P := Try.prog) w a n (fun j => .int .u8 ((ah.map (fun b : Nat => (b : Int))).getD j 0)) hc
    have hrange := range_map_take (Value.int .u8) (ah.map (fun b : Nat => (b : Int))) n (by rw [List.length_map]; omega)
    rw [List.take_of_length_le (by rw [List.length_map]; omega)] at hrange
    rw [run_bytesToString w a n c (ah.map (fun b : Nat => (b : Int))) (by rw [hload, hrange]), hfold]
    simp

set_option maxRecDepth 20000 in
set_option maxHeartbeats 2000000 in
theorem broken_ok {w0 w : World} {g : Nat} {m : Mch} (h : MachAt w g m) (he : Ext w0 w) (hg : w0.heap.size ≤ g) (hq : m.out.length ≤ 1000000) :
    Calls Try.prog 26 #[.pointer (some ⟨g, 0, none⟩)] w fun e w' => e = .returned (.tuple #[]) ∧ MachAt w' g (brkF m) ∧ Ext w0 w' := by
  obtain ⟨i0, hi, hz0, hz1, hz2⟩ := info_parts info_int
  have HM := Lib.hid h
  obtain ⟨A, n, c, O, q, d, hb, ha, ho⟩ := h
  have hl : m.ah.length = n := by have := (Own.rd ha).len; rw [List.length_map] at this; omega
  have hql : m.out.length = q := ho.ints.len
  have k0 := hb.cell 0
  have k1 := hb.cell 1
  have f0 := hb.frozen 0
  have f1 := hb.frozen 1
  simp only [List.getElem?_toArray, List.getElem?_cons_zero, List.getElem?_cons_succ] at k0 k1
  have hlt := hb.lt
  by_cases h0 : n = 0
  · have HE : Hid (brkF m = m) := Lib.hid (by unfold brkF; rw [if_pos (by omega)])
    subst h0
    clear hb ha ho hl hql f0 f1
    go_enter Try.func26, Try.ntmps26
    go_wp2_with fail
    go_end0
    exact ⟨rfl, by rw [HE.out]; exact HM.out, he⟩
  · have HE : Hid (brkF m = ⟨[], m.out ++ [65533]⟩) := Lib.hid (by unfold brkF; rw [if_neg (by omega)])
    have hn0 : 0 < n := by omega
    have hq2 : q ≤ 1000000 := by omega
    have a1 := Ext.cell (Ext.alloc w (.cells #[.int .i64 65533] 3)) k1
    have HB := Lib.hid hb
    have HO := Lib.hid ho
    clear hb ha ho hl hql hq h0 HM
    go_enter Try.func26, Try.ntmps26
    have hown := HO.out
    go_wp2_with (at_builtin; refine wpList_push rfl (.tmp 12) (.tmp 13) 26 rfl w0 (g + 1) 3 i0 (.int .i64 0) 1 8 Try.underlying26 hi hz0 hz1 hz2 rfl (by decide) O q d _ rfl hown #[.int .i64 65533] rfl ?_ rfl ?_ ?_ he (by omega) (by omega) ?_)
    · rfl
    · unfold maxLen; omega
    · omega
    · intro O2 d2 w3 hO2 hgr hor hx3
      have hne : (Value.slice O q d).ownBlock ≠ some g := fun e => by have := (Own.blk HO.out g e).1; omega
      have hb3 := HB.out.grown hgr (fun e => hne e.symm)
      have c0 := hb3.cell 0
      have c1 := hb3.cell 1
      have f0 := hb3.frozen 0
      have f1 := hb3.frozen 1
      simp only [List.getElem?_toArray, List.getElem?_cons_zero, List.getElem?_cons_succ] at c0 c1
      have hb4 : Blk (w3.setCell ⟨g, 1, none⟩ (.slice O2 (q + 1) d2)) g 58 #[.slice A n c, .slice O2 (q + 1) d2] := by simpa using hb3.set_ 1 (.slice O2 (q + 1) d2)
      have f4 := hb4.frozen 0
      have c4 := hb4.cell 0
      simp only [List.getElem?_toArray, List.getElem?_cons_zero, List.getElem?_cons_succ] at c4
      have hb5 : Blk ((w3.setCell ⟨g, 1, none⟩ (.slice O2 (q + 1) d2)).setCell ⟨g, 0, none⟩ (.slice none 0 0)) g 58 #[.slice none 0 0, .slice O2 (q + 1) d2] := by simpa using hb4.set_ 0 (.slice none 0 0)
      have hO5 : OwnI ((w3.setCell ⟨g, 1, none⟩ (.slice O2 (q + 1) d2)).setCell ⟨g, 0, none⟩ (.slice none 0 0)) (g + 1) O2 (q + 1) d2 (m.out ++ [65533]) := by
        have := Own.setCell (Own.setCell hO2 (p := ⟨g, 1, none⟩) (Nat.lt_succ_self g) (.slice O2 (q + 1) d2)) (p := ⟨g, 0, none⟩) (Nat.lt_succ_self g) (.slice none 0 0)
        simpa [OwnI] using this
      have hE5 := (hx3.setCell (p := ⟨g, 1, none⟩) hg (.slice O2 (q + 1) d2)).setCell (p := ⟨g, 0, none⟩) hg (.slice none 0 0)
      have HF : Hid (MachAt ((w3.setCell ⟨g, 1, none⟩ (.slice O2 (q + 1) d2)).setCell ⟨g, 0, none⟩ (.slice none 0 0)) g ⟨[], m.out ++ [65533]⟩) := Lib.hid ⟨none, 0, 0, O2, q + 1, d2, hb5, Own.nil _ _ _ _, hO5⟩
      have HX := Lib.hid hE5
      clear hO2 hgr hor hx3 hb3 hb4 hb5 hO5 hE5 hown
      go_wp2_with fail
      go_end0
      exact ⟨rfl, by rw [HE.out]; exact HF.out, HX.out⟩
end Go.Proofs.Ytbgegkagnahlpaa
