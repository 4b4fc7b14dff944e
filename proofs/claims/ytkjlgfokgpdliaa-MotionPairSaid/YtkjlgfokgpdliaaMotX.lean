/-
  The law MotionPair: the walk.
-/
import Derived.Test.YtkjlgfokgpdliaaMotG
namespace Go.Proofs.Ytkjlgfokgpdliaa
open Go.RowKit
set_option linter.unusedVariables false

set_option maxHeartbeats 400000 in
theorem mp1_ok {c : Int} {w : World} (h : othF c = 0) : Calls Try.prog 23 #[.int .i64 c] w fun e w' => e = .returned (.bool false) ∧ w' = w := by
  have HZ := Lib.hid h
  clear h
  go_enter Try.func23, Try.ntmps23
  go_wp2_with fail
  refine (kind_ok c w).mono ?_
  rintro e w1 ⟨rfl, rfl⟩
  rw [HZ.out]
  go_wp2_with fail
  go_ret
  exact ⟨rfl, rfl⟩

set_option maxHeartbeats 1000000 in
theorem mpIdx_ok {A : Option Addr} {n c : Nat} {l : List Int} {w : World} (hl : Ints w A n c l) (hg : ∀ k, k < n → othF (gI l k) = 0) :
    Calls Try.prog 31 #[.slice A n c, .func (.func 23) #[] #[]] w fun e w' => e = .returned (.int .i64 (-1)) ∧ w' = w := by
  have h1 := hl.ncap
  have h2 := hl.nmax
  unfold maxLen at h2
  have HG := Lib.hid hg
  clear hg
  go_enter Try.func31, Try.ntmps31
  go_wp2_with fail
  go_loopw [8] (fun i wr => ∃ k : Nat, k ≤ n ∧ i = .int .i64 k ∧ wr = w) (fun i _ => n - (intOf i).toNat)
  case atStart => exact ⟨0, by omega, rfl, rfl⟩
  case round =>
    obtain ⟨k, hk, rfl, rfl⟩ := hrel
    by_cases hlt : k < n
    · obtain ⟨a1, rfl, hc1⟩ := hl.at_ hlt
      have c1 := hc1 k hlt
      clear hc1
      go_wp2_with fail
      refine (mp1_ok (HG.out k hlt)).mono ?_
      rintro e w1 ⟨rfl, rfl⟩
      go_wp2_with fail
      go_roundw
      case rel => exact ⟨k + 1, by omega, by go_num, trivial⟩
      case measure => simp [intOf]; omega
    · obtain rfl : k = n := by omega
      go_wp2_with fail
      go_ret
      exact ⟨rfl, rfl⟩
set_option maxHeartbeats 1000000 in
theorem mpCont_ok {A : Option Addr} {n c : Nat} {l : List Int} {w : World} (hl : Ints w A n c l) (hg : ∀ k, k < n → othF (gI l k) = 0) :
    Calls Try.prog 19 #[.slice A n c, .func (.func 23) #[] #[]] w fun e w' => e = .returned (.bool false) ∧ w' = w := by
  have h1 := hl.ncap
  have h2 := hl.nmax
  unfold maxLen at h2
  have HG := Lib.hid hg
  clear hg
  go_enter Try.func19, Try.ntmps19
  go_wp2_with fail
  refine (mpIdx_ok hl HG.out).mono ?_
  rintro e w1 ⟨rfl, rfl⟩
  go_wp2_with fail
  go_ret
  exact ⟨rfl, rfl⟩

theorem mp_lit {i m : Nat} (h : foundP (chars ⟨#[40, 97, 41]⟩) 0 i m) : i = 0 ∧ m = 2 := by
  obtain ⟨_, h2, _, h4, h5, _⟩ := h
  rcases Nat.eq_zero_or_pos i with h0 | h0
  · subst h0
    have e : gI (pairsF (chars ⟨#[40, 97, 41]⟩)) 0 = 2 := by decide +kernel
    omega
  · exact absurd (h4 0 (Nat.le_refl _) h0) (by decide +kernel)
theorem mp_lit_no : ¬ noP (chars ⟨#[40, 97, 41]⟩) 0 := fun h => by
  have := h 0 (Nat.le_refl _) (by decide +kernel) (by decide +kernel) (fun j _ h2 => absurd h2 (by omega))
  exact absurd this (by decide +kernel)

/-- From the partner one gets back. -/
theorem back_pair {l : List Int} {k i m : Nat} (h : foundP l k i m) : othF (gI l m) = gI l i ∧ othF (gI l m) ≠ 0 ∧ gI (pairsF l) m = (i : Int) := by
  obtain ⟨h1, h2, h3, h4, h5, h6⟩ := h
  rcases opairs_says h2 with h | ⟨m', g1, g2, g3, g4, g5, g6, g7⟩
  · omega
  obtain rfl : m' = m := by omega
  rcases opairs_says h6 with h | ⟨i', f1, f2, f3, f4, f5, f6, f7⟩
  · omega
  obtain rfl : i' = i := by omega
  exact ⟨f5, f7, f1⟩
theorem back_no {l : List Int} {k i m : Nat} (h : foundP l k i m) : ¬ noP l m := fun h2 => by
  obtain ⟨b1, b2, b3⟩ := back_pair h
  have := h2 m (Nat.le_refl _) h.2.2.2.2.2 b2 (fun j h1 h2 => absurd h2 (by omega))
  omega
theorem back_is {l : List Int} {k i m i' m' : Nat} (h : foundP l k i m) (h' : foundP l m i' m') : i' = m ∧ m' = i := by
  obtain ⟨b1, b2, b3⟩ := back_pair h
  obtain ⟨g1, g2, g3, g4, g5, g6⟩ := h'
  have e : i' = m := by
    rcases Nat.lt_or_ge m i' with h1 | h1
    · exact absurd (g4 m (Nat.le_refl _) h1) b2
    · omega
  subst e
  exact ⟨rfl, by omega⟩

set_option maxRecDepth 100000 in
set_option maxHeartbeats 8000000 in
theorem motionPair_walk {A : Option Addr} {n c : Nat} {l : List Int} {k : Int} {w : World} (hl : Ints w A n c l) (wl : ∀ x ∈ l, (Lit.int .i64 x).wf = true) :
    Calls Try.prog 9 #[.slice A n c, .int .i64 k] w fun e w' => e = .returned (.bool true) ∧ Ext w w' := by
  have hnc := hl.ncap
  have hcm := hl.nmax
  have hlen := Lib.hid hl.len
  have WL := Lib.hid wl
  clear wl
  go_enter Try.func9, Try.ntmps9
  go_wp2_with fail
  refine (of_ok _ _ (by decide)).mono ?_
  rintro e w1 ⟨B, d, rfl, hown, he1⟩
  have hB := hown.ints
  clear hown
  go_wp2_with fail
  refine (mgo_ok (k := 0) hB (chars_wf _) (by decide) (.inl rfl)).mono ?_
  rintro e w2 ⟨⟨i, b, hf, rfl⟩ | ⟨hf, rfl⟩, he2⟩
  rotate_left
  · exact absurd hf mp_lit_no
  obtain ⟨rfl, rfl⟩ := mp_lit hf
  have hx := (Ext.alloc w2 (.cells #[.int .i64 37, .int .i64 0, .int .i64 0] 42))
  have he := (he1.trans he2).trans hx
  have hb := Blk.new w2 42 #[.int .i64 37, .int .i64 0, .int .i64 0]
  have hl2 := hl.ext he
  clear hf hB he1 he2 hl hx
  go_wp2_with fail
  rcases Nat.lt_or_ge 4096 n with h0 | h0
  · refine (mgo_err (er := 2) (Lib.hid (fun w => mcheck_large hnc hcm h0)) rfl).mono ?_
    rintro e w3 ⟨rfl, he3⟩
    clear hb
    go_wp2_with fail
    go_ret
    exact ⟨rfl, he.trans he3⟩
  by_cases hk : k < 0 ∨ (0 < k ∧ (n : Int) ≤ k)
  · refine (mgo_err (er := 1) (Lib.hid (fun w => mcheck_out hnc hcm h0 hk)) rfl).mono ?_
    rintro e w3 ⟨rfl, he3⟩
    clear hk hb
    go_wp2_with fail
    go_ret
    exact ⟨rfl, he.trans he3⟩
  obtain ⟨kn, rfl⟩ := Int.eq_ofNat_of_zero_le (show 0 ≤ k by omega)
  have hkn : kn = 0 ∨ kn < n := by omega
  clear hk
  refine (mgo_ok (k := kn) hl2 WL.out h0 hkn).mono ?_
  rintro e w3 ⟨⟨i, m, hf, rfl⟩ | ⟨hf, rfl⟩, he3⟩
  rotate_left
  · clear hf hb
    go_wp2_with fail
    go_ret
    exact ⟨rfl, he.trans he3⟩
  have HF := Lib.hid hf
  have hm6 := hf.2.2.2.2.2
  have hi2 := hf.2.1
  have hki := hf.1
  rw [hlen.out] at hm6 hi2
  have hq := hb.ext he3
  have c0 := hq.cell 0
  have c1 := hq.cell 1
  have c2 := hq.cell 2
  simp only [List.getElem?_toArray, List.getElem?_cons_zero, List.getElem?_cons_succ] at c0 c1 c2
  have heX := he.trans he3
  have hlX := hl2.ext he3
  clear hf hb hq he he3 hl2
  go_wp2_with fail
  refine (mgo_ok (k := m) hlX WL.out h0 (.inr hm6)).mono ?_
  rintro e w4 ⟨⟨i', m', hf, rfl⟩ | ⟨hf, rfl⟩, he4⟩
  rotate_left
  · exact absurd hf (back_no HF.out)
  obtain ⟨rfl, rfl⟩ := back_is HF.out hf
  have heY := heX.trans he4
  have hlY := hlX.ext he4
  obtain ⟨a1, rfl, hc1⟩ := hlY.at_ hi2
  have d1 := hc1 _ hm6
  have d2 := hc1 _ hi2
  have hcap := hlY.ncap
  have hcut := hlY.cut (k := kn) (m := m') hki (by omega)
  clear hc1 hf c0 c1 c2 heX hlX he4
  have b1 := (back_pair HF.out).1
  have q1 : (othF (gI l i') == gI l m') = true := by simpa using b1
  have hgood : Hid (∀ q, q < m' - kn → othF (gI ((l.drop kn).take (m' - kn)) q) = 0) := Lib.hid (fun q hq => by
    have := HF.out.2.2.2.1 (kn + q) (by omega) (by omega)
    have e : gI ((l.drop kn).take (m' - kn)) q = gI l (kn + q) := by unfold gI; rw [List.getElem?_take, if_pos hq, List.getElem?_drop]
    rw [e]; exact this)
  clear b1
  go_wp2_with fail
  refine (kind_ok _ _).mono ?_
  rintro e w5 ⟨rfl, rfl⟩
  go_wp2_with fail
  have hcut2 : Ints w4 (some (a1.add kn)) (m' - kn) (c - kn) ((l.drop kn).take (m' - kn)) := by
    rw [if_neg (by omega)] at hcut
    exact hcut
  refine (mpCont_ok hcut2 hgood.out).mono ?_
  rintro e w5 ⟨rfl, rfl⟩
  clear hcut hcut2 d1 d2 q1
  go_wp2_with fail
  go_ret
  exact ⟨rfl, heY⟩
end Go.Proofs.Ytkjlgfokgpdliaa
