/-
  The walks of package motion: all motions; Check, Go, Range.
-/
import Derived.Test.YtmhgndjmcignjaaZMotQ

namespace Go.Proofs.Ytmhgndjmcignjaa
open Go.RowKit
set_option linter.unusedVariables false
set_option linter.unusedSimpArgs false

theorem ent_next (args : Array Value) (w : World) : Sem.run Try.prog (callFunc 71 args) w = .ok (.enter 71 args) w := rfl
theorem ent_back (args : Array Value) (w : World) : Sem.run Try.prog (callFunc 25 args) w = .ok (.enter 25 args) w := rfl
theorem ent_end (args : Array Value) (w : World) : Sem.run Try.prog (callFunc 72 args) w = .ok (.enter 72 args) w := rfl

section
variable {l : List Int} {A : Option Addr} {n c : Nat} {k g : Nat} {op big : Bool} {w : World}
theorem times_next (hl : Ints w A n c l) (hn : n ≤ 4096) (hk : k ≤ n) (hg2 : g ≤ 4096) (w1 : World) (he : Ext w w1) :
    Calls Try.prog 63 #[.agg #[.slice A n c, .int .i64 k, .int .i64 g, .bool op], .func (.func 71) #[] #[], .bool big] w1 fun e w' => e = .returned (.int .i64 (itF (nextF l · big) g k)) ∧ Ext w1 w' :=
  times_ok (s := (nextF l · big)) (hl.ext he) hn hk hg2 (Lib.hid ent_next) (Lib.hid (fun j hj => by have := nextF_le (l := l) (k := j) (big := big) (by rw [hl.len]; exact hj); rw [hl.len] at this; exact this)) (Lib.hid fun w2 j hj h2 => wnext_ok h2 hn hj)
theorem times_back (hl : Ints w A n c l) (hn : n ≤ 4096) (hk : k ≤ n) (hg2 : g ≤ 4096) (w1 : World) (he : Ext w w1) :
    Calls Try.prog 63 #[.agg #[.slice A n c, .int .i64 k, .int .i64 g, .bool op], .func (.func 25) #[] #[], .bool big] w1 fun e w' => e = .returned (.int .i64 (itF (backF l · big) g k)) ∧ Ext w1 w' :=
  times_ok (s := (backF l · big)) (hl.ext he) hn hk hg2 (Lib.hid ent_back) (Lib.hid (fun j hj => Nat.le_trans (backF_le (by rw [hl.len]; exact hj)) hj)) (Lib.hid fun w2 j hj h2 => wback_ok h2 hn hj)
theorem times_end (hl : Ints w A n c l) (hn : n ≤ 4096) (hk : k ≤ n) (hg2 : g ≤ 4096) (w1 : World) (he : Ext w w1) :
    Calls Try.prog 63 #[.agg #[.slice A n c, .int .i64 k, .int .i64 g, .bool op], .func (.func 72) #[] #[], .bool big] w1 fun e w' => e = .returned (.int .i64 (itF (endF l · big) g k)) ∧ Ext w1 w' :=
  times_ok (s := (endF l · big)) (hl.ext he) hn hk hg2 (Lib.hid ent_end) (Lib.hid (fun j hj => by have := endF_le (l := l) (k := j) (big := big) (by rw [hl.len]; exact hj); rw [hl.len] at this; exact this)) (Lib.hid fun w2 j hj h2 => wend_ok h2 hn hj)

theorem outs {P : Program} {f : FuncId} {args : Array Value} {R : Option (Nat × Bool) → Prop} {o : Option (Nat × Bool)} (h : Calls P f args w fun e w' => e = outP o ∧ Ext w w') (ho : R o) :
    Calls P f args w fun e w' => (∃ o, R o ∧ e = outP o) ∧ Ext w w' := h.mono fun _ _ ⟨h1, h2⟩ => ⟨⟨o, ho, h1⟩, h2⟩

set_option maxRecDepth 20000 in
set_option maxHeartbeats 2000000 in
theorem plain_all {key : Int} (hl : Ints w A n c l) (wl : ∀ x ∈ l, (Lit.int .i64 x).wf = true) (hn : n ≤ 4096) (hk : k ≤ n) (hg1 : 1 ≤ g) (hg2 : g ≤ 4096) (hkey : isPlain key = true) :
    Calls Try.prog 53 #[.agg #[.slice A n c, .int .i64 k, .int .i64 g, .bool op], .int .i64 key] w fun e w' => (∃ o, plainR l k key g op o ∧ e = outP o) ∧ Ext w w' := by
  have hnc := hl.ncap
  have hcm := hl.nmax
  have hlen := hl.len
  have hX1 : ∀ big, itF (nextF l · big) g k ≤ n := fun big => by rw [← hlen]; exact itF_le (fun k hk => nextF_le hk) g (by omega)
  have hX2 : ∀ big, itF (endF l · big) g k ≤ n := fun big => by rw [← hlen]; exact itF_le (fun k hk => endF_le hk) g (by omega)
  unfold isPlain at hkey
  rw [decide_eq_true_eq] at hkey
  rcases hkey with rfl | rfl | rfl | rfl | rfl | rfl | rfl | rfl | rfl | rfl | rfl | rfl | rfl
  · skip
    rcases Nat.eq_zero_or_pos k with h0 | h0
    · exact outs (R := plainR l k _ g op) (pl_h0 (l := l) hnc hcm hn hk hg1 hg2 h0) (by simp [plainR, plainF, h0])
    · exact outs (R := plainR l k _ g op) (pl_h1 (l := l) hnc hcm hn hk hg1 hg2 h0) (by simp [plainR, plainF, Nat.ne_of_gt h0])
  · skip
    exact outs (R := plainR l k _ g op) (pl_108 (l := l) hnc hcm hn hk hg1 hg2 (Lib.hid fun w1 _ => right_ok hnc hcm hn hk hg1 hg2)) (by simp [plainR, plainF, hlen])
  · skip
    exact outs (R := plainR l k _ g op) (pl_0 (l := l) hnc hcm hn hk hg1 hg2) (by simp [plainR, plainF])
  · skip
    exact outs (R := plainR l k _ g op) (pl_94 (l := l) hnc hcm hn hk hg1 hg2 (Lib.hid fun w1 he => first_ok (hl.ext he) hn)) (by simp [plainR, plainF])
  · skip
    rcases Nat.eq_zero_or_pos n with h0 | h0
    · exact outs (R := plainR l k _ g op) (pl_e36 (l := l) hnc hcm hn hk hg1 hg2 h0) (by simp [plainR, plainF, hlen, h0])
    · exact outs (R := plainR l k _ g op) (pl_36 (l := l) hnc hcm hn hk hg1 hg2 h0) (by simp [plainR, plainF, hlen, Nat.ne_of_gt h0])
  · skip
    rcases Nat.eq_zero_or_pos n with h0 | h0
    · exact outs (R := plainR l k _ g op) (pl_e124 (l := l) hnc hcm hn hk hg1 hg2 h0) (by simp [plainR, plainF, hlen, h0])
    · exact outs (R := plainR l k _ g op) (pl_124 (l := l) hnc hcm hn hk hg1 hg2 h0) (by simp [plainR, plainF, hlen, Nat.ne_of_gt h0])
  · skip
    rcases Nat.eq_zero_or_pos n with h0 | h0
    · exact outs (R := plainR l k _ g op) (pl_e119 (l := l) hnc hcm hn hk hg1 hg2 h0) (by simp [plainR, plainF, hlen, h0])
    · exact outs (R := plainR l k _ g op) (pl_119 (l := l) hnc hcm hn hk hg1 hg2 h0 (Lib.hid fun w1 he => words_ok hnc hcm hn hk h0 (hX1 _) (Lib.hid fun w2 he2 => times_next hl hn hk hg2 w2 (he.trans he2)))) (by simp [plainR, plainF, hlen, Nat.ne_of_gt h0])
  · skip
    rcases Nat.eq_zero_or_pos n with h0 | h0
    · exact outs (R := plainR l k _ g op) (pl_e87 (l := l) hnc hcm hn hk hg1 hg2 h0) (by simp [plainR, plainF, hlen, h0])
    · exact outs (R := plainR l k _ g op) (pl_87 (l := l) hnc hcm hn hk hg1 hg2 h0 (Lib.hid fun w1 he => words_ok hnc hcm hn hk h0 (hX1 _) (Lib.hid fun w2 he2 => times_next hl hn hk hg2 w2 (he.trans he2)))) (by simp [plainR, plainF, hlen, Nat.ne_of_gt h0])
  · skip
    rcases Nat.eq_zero_or_pos k with h0 | h0
    · exact outs (R := plainR l k _ g op) (pl_e98 (l := l) hnc hcm hn hk hg1 hg2 h0) (by simp [plainR, plainF, h0])
    · exact outs (R := plainR l k _ g op) (pl_98 (l := l) hnc hcm hn hk hg1 hg2 h0 (Lib.hid (times_back hl hn hk hg2))) (by simp [plainR, plainF, Nat.ne_of_gt h0])
  · skip
    rcases Nat.eq_zero_or_pos k with h0 | h0
    · exact outs (R := plainR l k _ g op) (pl_e66 (l := l) hnc hcm hn hk hg1 hg2 h0) (by simp [plainR, plainF, h0])
    · exact outs (R := plainR l k _ g op) (pl_66 (l := l) hnc hcm hn hk hg1 hg2 h0 (Lib.hid (times_back hl hn hk hg2))) (by simp [plainR, plainF, Nat.ne_of_gt h0])
  · skip
    rcases Nat.eq_zero_or_pos n with h0 | h0
    · exact outs (R := plainR l k _ g op) (pl_e101 (l := l) hnc hcm hn hk hg1 hg2 h0) (by simp [plainR, plainF, hlen, h0])
    · exact outs (R := plainR l k _ g op) (pl_101 (l := l) hnc hcm hn hk hg1 hg2 h0 (Lib.hid fun w1 he => ends_ok hnc hcm hn hk h0 (hX2 _) (Lib.hid fun w2 he2 => times_end hl hn hk hg2 w2 (he.trans he2)))) (by simp [plainR, plainF, hlen, Nat.ne_of_gt h0])
  · skip
    rcases Nat.eq_zero_or_pos n with h0 | h0
    · exact outs (R := plainR l k _ g op) (pl_e69 (l := l) hnc hcm hn hk hg1 hg2 h0) (by simp [plainR, plainF, hlen, h0])
    · exact outs (R := plainR l k _ g op) (pl_69 (l := l) hnc hcm hn hk hg1 hg2 h0 (Lib.hid fun w1 he => ends_ok hnc hcm hn hk h0 (hX2 _) (Lib.hid fun w2 he2 => times_end hl hn hk hg2 w2 (he.trans he2)))) (by simp [plainR, plainF, hlen, Nat.ne_of_gt h0])
  · skip
    rcases Nat.eq_zero_or_pos n with h0 | h0
    · exact outs (pl_e37 (l := l) hnc hcm hn hk hg1 hg2 h0) (by unfold plainR; rw [if_pos rfl]; exact .inr ⟨fun i _ h2 => absurd h2 (by rw [hlen]; omega), rfl⟩)
    · exact pl_37 (l := l) (R := plainR l k 37 g op) hnc hcm hn hk hg1 hg2 h0 (Lib.hid fun w1 he => (partner_ok (hl.ext he) wl hn hk).mono fun e w' ⟨h1, h2⟩ => ⟨by
          rcases h1 with ⟨i, m, hf, rfl⟩ | ⟨hno, rfl⟩
          · exact ⟨some (m, true), by unfold plainR; rw [if_pos rfl]; exact .inl ⟨i, m, hf, rfl⟩, rfl⟩
          · exact ⟨none, by unfold plainR; rw [if_pos rfl]; exact .inr ⟨hno, rfl⟩, rfl⟩, h2⟩)

theorem found_all {key arg : Int} (hl : Ints w A n c l) (hn : n ≤ 4096) (hk : k ≤ n) (hg1 : 1 ≤ g) (hg2 : g ≤ 4096) (hkey : isFind key = true) :
    Calls Try.prog 52 #[.agg #[.slice A n c, .int .i64 k, .int .i64 g, .bool op], .int .i64 key, .int .i64 arg] w fun e w' => (∃ o, o = foundF l k key arg g ∧ e = outP o) ∧ Ext w w' := by
  have hnc := hl.ncap
  have hcm := hl.nmax
  have hlen := hl.len
  have HR : ∀ w1, Ext w w1 → Calls Try.prog 60 #[.agg #[.slice A n c, .int .i64 k, .int .i64 g, .bool op], .int .i64 arg, .int .i64 1] w1 fun e w' => e = outF (findR l arg (n - (k + 1)) (k + 1) g) ∧ Ext w1 w' := fun w1 he => find_right (hl.ext he) hn hk hg1 hg2
  have HL : ∀ w1, Ext w w1 → Calls Try.prog 60 #[.agg #[.slice A n c, .int .i64 k, .int .i64 g, .bool op], .int .i64 arg, .int .i64 (-1)] w1 fun e w' => e = outF (findL l arg k g) ∧ Ext w1 w' := fun w1 he => find_left (hl.ext he) hn hk hg1 hg2
  have b1 : ∀ j, findR l arg (n - (k + 1)) (k + 1) g = some j → 1 ≤ j ∧ j ≤ 4096 := fun j h => by have := findR_bd h; omega
  have b2 : ∀ j, findL l arg k g = some j → j ≤ 4096 := fun j h => by have := findL_bd h; omega
  unfold isFind at hkey
  rw [decide_eq_true_eq] at hkey
  unfold foundF
  rw [hlen]
  generalize findR l arg (n - (k + 1)) (k + 1) g = x at *
  generalize findL l arg k g = y at *
  rcases hkey with rfl | rfl | rfl | rfl
  · rcases x with _ | j
    · exact outs (R := fun o => o = _) (fo_102n (l := l) hnc hcm hn hk hg1 hg2 (Lib.hid HR)) (by simp)
    · exact outs (R := fun o => o = _) (fo_102s (l := l) hnc hcm hn hk hg1 hg2 (b1 j rfl) (Lib.hid HR)) (by simp)
  · rcases x with _ | j
    · exact outs (R := fun o => o = _) (fo_116n (l := l) hnc hcm hn hk hg1 hg2 (Lib.hid HR)) (by simp)
    · exact outs (R := fun o => o = _) (fo_116s (l := l) hnc hcm hn hk hg1 hg2 (b1 j rfl) (Lib.hid HR)) (by simp)
  · rcases y with _ | j
    · exact outs (R := fun o => o = _) (fo_70n (l := l) hnc hcm hn hk hg1 hg2 (Lib.hid HL)) (by simp)
    · exact outs (R := fun o => o = _) (fo_70s (l := l) hnc hcm hn hk hg1 hg2 (b2 j rfl) (Lib.hid HL)) (by simp)
  · rcases y with _ | j
    · exact outs (R := fun o => o = _) (fo_84n (l := l) hnc hcm hn hk hg1 hg2 (Lib.hid HL)) (by simp)
    · exact outs (R := fun o => o = _) (fo_84s (l := l) hnc hcm hn hk hg1 hg2 (b2 j rfl) (Lib.hid HL)) (by simp)
end

set_option maxRecDepth 20000 in
set_option maxHeartbeats 4000000 in
theorem known_all (key : Int) (w : World) : Calls Try.prog 51 #[.int .i64 key] w fun e w' => e = .returned (.tuple #[.bool (isPlain key || isFind key), .bool (isFind key)]) ∧ w = w' := by
  by_cases h : key = 104 ∨ key = 108 ∨ key = 48 ∨ key = 94 ∨ key = 36 ∨ key = 124 ∨ key = 119 ∨ key = 87 ∨ key = 98 ∨ key = 66 ∨ key = 101 ∨ key = 69 ∨ key = 37 ∨ key = 102 ∨ key = 116 ∨ key = 70 ∨ key = 84
  · rcases h with rfl | rfl | rfl | rfl | rfl | rfl | rfl | rfl | rfl | rfl | rfl | rfl | rfl | rfl | rfl | rfl | rfl
    all_goals
      go_enter Try.func51, Try.ntmps51
      go_wp2_with fail
      go_ret2
      exact ⟨rfl, rfl⟩
  · have H : Hid (isPlain key = false ∧ isFind key = false) := Lib.hid ⟨by unfold isPlain; simp; omega, by unfold isFind; simp; omega⟩
    simp only [not_or] at h
    obtain ⟨h1, h2, h3, h4, h5, h6, h7, h8, h9, h10, h11, h12, h13, h14, h15, h16, h17⟩ := h
    have g1 : (key == 104) = false := by simpa using h1
    have g2 : (key == 108) = false := by simpa using h2
    have g3 : (key == 48) = false := by simpa using h3
    have g4 : (key == 94) = false := by simpa using h4
    have g5 : (key == 36) = false := by simpa using h5
    have g6 : (key == 124) = false := by simpa using h6
    have g7 : (key == 119) = false := by simpa using h7
    have g8 : (key == 87) = false := by simpa using h8
    have g9 : (key == 98) = false := by simpa using h9
    have g10 : (key == 66) = false := by simpa using h10
    have g11 : (key == 101) = false := by simpa using h11
    have g12 : (key == 69) = false := by simpa using h12
    have g13 : (key == 37) = false := by simpa using h13
    have g14 : (key == 102) = false := by simpa using h14
    have g15 : (key == 116) = false := by simpa using h15
    have g16 : (key == 70) = false := by simpa using h16
    have g17 : (key == 84) = false := by simpa using h17
    rw [H.out.1, H.out.2]
    clear h1 h2 h3 h4 h5 h6 h7 h8 h9 h10 h11 h12 h13 h14 h15 h16 h17
    go_enter Try.func51, Try.ntmps51
    go_wp2_with fail
    go_ret2
    exact ⟨rfl, rfl⟩
end Go.Proofs.Ytmhgndjmcignjaa
