/-
  The law WordWays: the walk.
-/
import Derived.Test.YtkjlgfokgpdliaaWordW
namespace Go.Proofs.Ytkjlgfokgpdliaa
open Go.RowKit
set_option linter.unusedVariables false

set_option maxHeartbeats 2000000 in
theorem begins_ok {l : List Int} {A : Option Addr} {n c : Nat} {big : Bool} {w : World} {p1 p2 : Addr} {i : Nat} (hl : Ints w A n c l) (c1 : w.cell? p1 = some (.slice A n c)) (c2 : w.cell? p2 = some (.bool big)) (h : beginsP l i big) (hn : n ≤ 4096) :
    Calls Try.prog 14 #[.int .i64 i, .pointer (some p1), .pointer (some p2)] w fun e w' => e = .returned (.bool true) ∧ Ext w w' := by
  obtain ⟨h1, h2, h3⟩ := h
  rw [hl.len] at h1
  obtain ⟨ad, rfl, hc⟩ := hl.at_ h1
  have d1 := hc i h1
  rw [kindAt_in (by rw [hl.len]; exact h1)] at h2 h3
  have b1 : (kindF (gI l i) big != 0) = true := by simpa using h2
  rcases h3 with h3 | h3
  · subst h3
    rw [add_nought] at d1
    clear hc h2
    go_enter Try.func14, Try.ntmps14
    go_wp2_with fail
    go_quiet ((go_at_call 15; exact wkind_quiet _ _ _ _))
    go_wp2_with fail
    go_ret
    exact ⟨rfl, Ext.drewN _ _⟩
  · rcases Nat.eq_zero_or_pos i with h0 | h0
    · subst h0
      rw [add_nought] at d1
      clear hc h2 h3
      go_enter Try.func14, Try.ntmps14
      go_wp2_with fail
      go_quiet ((go_at_call 15; exact wkind_quiet _ _ _ _))
      go_wp2_with fail
      go_ret
      exact ⟨rfl, Ext.drewN _ _⟩
    · have d2 := hc (i - 1) (by omega)
      rw [show ((i : Int) - 1) = ((i - 1 : Nat) : Int) by omega, kindAt_in (by rw [hl.len]; omega)] at h3
      have b2 : (kindF (gI l (i - 1)) big != kindF (gI l i) big) = true := by simpa using h3
      have b3 : ((i : Int) == 0) = false := by simp; omega
      have s1 : IntKind.i64.wrap ((i : Int) - 1) = ((i - 1 : Nat) : Int) := by rw [show ((i : Int) - 1) = ((i - 1 : Nat) : Int) by omega]; exact IntWalk.i64_in _ (by omega)
      have s3 : ((i - 1 : Nat) : Int) < (n : Int) := by omega
      clear hc h2 h3
      go_enter Try.func14, Try.ntmps14
      go_wp2_with fail
      go_quiet ((go_at_call 15; exact wkind_quiet _ _ _ _))
      go_wp2_with fail
      go_ret
      exact ⟨rfl, Ext.drewN _ _⟩

set_option maxRecDepth 100000 in
set_option maxHeartbeats 8000000 in
theorem wordWays_walk {A : Option Addr} {n c : Nat} {l : List Int} {k : Int} {big : Bool} {w : World} (hl : Ints w A n c l) :
    Calls Try.prog 4 #[.slice A n c, .int .i64 k, .bool big] w fun e w' => e = .returned (.bool true) ∧ Ext w w' := by
  have hnc := hl.ncap
  have hcm := hl.nmax
  have hlen := Lib.hid hl.len
  go_enter Try.func4, Try.ntmps4
  go_wp2_with fail
  have hx0 : Ext w ((w.alloc (.cells #[.slice A n c] 22)).alloc (.cells #[.bool big] 4)) := (Ext.alloc _ _).to_alloc _
  have hb1 := (Blk.new w 22 #[.slice A n c]).ext (Ext.alloc _ (.cells #[.bool big] 4))
  have hb2 : Blk ((w.alloc (.cells #[.slice A n c] 22)).alloc (.cells #[.bool big] 4)) (w.heap.size + 1) 4 #[.bool big] := by
    simpa using Blk.new (w.alloc (.cells #[.slice A n c] 22)) 4 #[.bool big]
  refine (of_ok _ _ (by decide)).mono ?_
  rintro e w1 ⟨B, d, rfl, hown, he1⟩
  have hB := hown.ints
  clear hown
  go_wp2_with fail
  refine (wnext_ok (k := 0) hB (by decide) (by decide)).mono ?_
  rintro e w2 ⟨rfl, he2⟩
  have hx := he1.trans he2
  have hlX := hl.ext (hx0.trans hx)
  have hq1 := hb1.ext hx
  have hq2 := hb2.ext hx
  have he := hx0.trans hx
  rw [show nextF (chars { data := #[97, 98, 32, 99] }) 0 false = 3 by decide +kernel]
  have c1 := hq1.cell 0
  have c2 := hq2.cell 0
  simp only [List.getElem?_toArray, List.getElem?_cons_zero] at c1 c2
  clear hB he1 he2 hx hx0 hb1 hb2 hl
  go_wp2_with fail
  by_cases hb : wbad n k
  · have H1 := Lib.hid (wnext_bad (A := A) (big := big) (w := w2) hnc hcm hb)
    have H2 := Lib.hid (wback_bad (A := A) (big := big) (w := w2) hnc hcm hb)
    have H3 := Lib.hid (wend_bad (A := A) (big := big) (w := w2) hnc hcm hb)
    rcases Nat.lt_or_ge 4096 n with h2 | h2
    · rw [if_pos h2] at H1 H2 H3
      clear hb
      refine H1.out.mono ?_
      rintro e w3 ⟨rfl, rfl⟩
      clear H1
      go_wp2_with fail
      refine H2.out.mono ?_
      rintro e w3 ⟨rfl, rfl⟩
      clear H2
      go_wp2_with fail
      refine H3.out.mono ?_
      rintro e w3 ⟨rfl, rfl⟩
      clear H3
      go_wp2_with fail
      go_ret
      exact ⟨rfl, he⟩
    · rw [if_neg (by omega)] at H1 H2 H3
      clear hb
      refine H1.out.mono ?_
      rintro e w3 ⟨rfl, rfl⟩
      clear H1
      go_wp2_with fail
      refine H2.out.mono ?_
      rintro e w3 ⟨rfl, rfl⟩
      clear H2
      go_wp2_with fail
      refine H3.out.mono ?_
      rintro e w3 ⟨rfl, rfl⟩
      clear H3
      go_wp2_with fail
      go_ret
      exact ⟨rfl, he⟩
  · have h1 : n ≤ 4096 := by unfold wbad at hb; omega
    have h2 : 0 ≤ k := by unfold wbad at hb; omega
    have h3 : k ≤ n := by unfold wbad at hb; omega
    obtain ⟨kn, rfl⟩ := Int.eq_ofNat_of_zero_le h2
    have hkn : kn ≤ n := by omega
    clear hb
    refine (wnext_ok (k := kn) hlX h1 hkn).mono ?_
    rintro e w3 ⟨rfl, he3⟩
    have c3 := he3.cell c1
    have c4 := he3.cell c2
    have H2 := Lib.hid (wback_ok (k := kn) (big := big) (hlX.ext he3) h1 hkn)
    clear c1 c2
    go_wp2_with fail
    refine H2.out.mono ?_
    rintro e w4 ⟨rfl, he4⟩
    have c1 := he4.cell c3
    have c2 := he4.cell c4
    have H3 := Lib.hid (wend_ok (k := kn) (big := big) (hlX.ext (he3.trans he4)) h1 hkn)
    clear H2 c3 c4
    go_wp2_with fail
    refine H3.out.mono ?_
    rintro e w5 ⟨rfl, he5⟩
    have c3 := he5.cell c1
    have c4 := he5.cell c2
    have hxx := (he3.trans he4).trans he5
    have heY := he.trans hxx
    have hlY := hlX.ext hxx
    clear H3 c1 c2 hxx he he3 he4 he5 hlX hq1 hq2
    have hX := @nextF_facts l kn big (by rw [hlen.out]; exact hkn)
    have hX2 := Lib.hid (@next_way l kn big (by rw [hlen.out]; exact hkn))
    have hB2 := Lib.hid (@back_way l kn big (by rw [hlen.out]; exact hkn))
    have hE2 := Lib.hid (@end_way l kn big (by rw [hlen.out]; exact hkn))
    obtain ⟨x1, x2, -, -⟩ := hX
    have hEn : endF l kn big ≤ n := by rcases hE2.out with ⟨h, h'⟩ | ⟨h, h'⟩ | ⟨h, h', _⟩ <;> (try rw [hlen.out] at h) <;> (try rw [hlen.out] at h') <;> omega
    rw [hlen.out] at x2 hX2
    rcases Nat.lt_or_ge (nextF l kn big) n with h5 | h5
    · obtain ⟨y1, y2, y3⟩ := hX2.out h5
      go_wp2_with fail
      refine (wback_ok (k := nextF l kn big) (big := big) hlY h1 (by omega)).mono ?_
      rintro e w6 ⟨rfl, he6⟩
      have c1 := he6.cell c3
      have c2 := he6.cell c4
      clear c3 c4
      go_wp2_with fail
      refine (begins_ok (hlY.ext he6) c1 c2 y2 h1).mono ?_
      rintro e w7 ⟨rfl, he7⟩
      have hz := heY.trans (he6.trans he7)
      have hlZ := hlY.ext (he6.trans he7)
      have c3 := he7.cell c1
      have c4 := he7.cell c2
      clear c1 c2 he6 he7 hlY heY hX2
      rcases hB2.out with b0 | ⟨b1, b2, b3⟩
      · rw [b0]
        clear hB2 b0
        rw [hlen.out] at hE2
        rcases hE2.out with ⟨g1, g2⟩ | ⟨g1, g2⟩ | ⟨g1, g2, g3⟩
        · subst g1
          rw [g2]
          clear g2
          first
            | (exfalso; omega)
            | (go_wp2_with fail
               go_quiet (fail)
               go_wp2_with fail
               all_goals (go_ret; exact ⟨rfl, hz.to_drewN _⟩))
        · have q1 : ((endF l kn big : Int) == (n : Int) - 1) = true := by simp; omega
          have q2 : ((n : Int) == 0) = false := by simp; omega
          have s1 : IntKind.i64.wrap ((n : Int) - 1) = (n : Int) - 1 := IntWalk.i64_in _ (by omega)
          clear g2
          go_wp2_with fail
          go_quiet (fail)
          go_wp2_with fail
          all_goals (go_ret; exact ⟨rfl, hz.to_drewN _⟩)
        · have q1 : ((endF l kn big : Int) == (n : Int) - 1) = false := by simp; omega
          have q2 : ((n : Int) == 0) = false := by simp; omega
          have s1 : IntKind.i64.wrap ((n : Int) - 1) = (n : Int) - 1 := IntWalk.i64_in _ (by omega)
          obtain ⟨e1, he1⟩ : ∃ e1 : Nat, e1 = endF l kn big + 1 := ⟨_, rfl⟩
          rw [← he1] at g3
          have s3 : (e1 : Int) < (n : Int) := by omega
          have s4 : endF l kn big < n := by omega
          rw [kindAt_in (by rw [hlen.out]; omega), kindAt_in (by rw [hlen.out]; omega)] at g3
          have q3 : (kindF (gI l (endF l kn big)) big != kindF (gI l e1) big) = true := by simpa using g3
          obtain ⟨ad, rfl, hc⟩ := hlZ.at_ s4
          have d1 := hc _ s4
          have d2 := hc e1 (by omega)
          have s2 : IntKind.i64.wrap ((endF l kn big : Int) + 1) = (e1 : Int) := by rw [he1]; exact IntWalk.i64_in _ (by omega)
          clear hc g3 he1
          go_wp2_with fail
          go_quiet ((go_at_call 15; exact wkind_quiet _ _ _ _))
          go_wp2_with fail
          all_goals (go_ret; exact ⟨rfl, hz.to_drewN _⟩)
      · have HBG := Lib.hid (begins_ok hlZ c3 c4 b3 h1)
        rw [hlen.out] at hE2
        clear hB2
        go_wp2_with fail
        refine HBG.out.mono ?_
        rintro e w8 ⟨rfl, he8⟩
        have hz := hz.trans he8
        have hlZ := hlZ.ext he8
        have c1 := he8.cell c3
        have c2 := he8.cell c4
        clear c3 c4 HBG
        have c3 := c1
        have c4 := c2
        clear c1 c2
        rcases hE2.out with ⟨g1, g2⟩ | ⟨g1, g2⟩ | ⟨g1, g2, g3⟩
        · subst g1
          rw [g2]
          clear g2
          first
            | (exfalso; omega)
            | (go_wp2_with fail
               go_quiet (fail)
               go_wp2_with fail
               all_goals (go_ret; exact ⟨rfl, hz.to_drewN _⟩))
        · have q1 : ((endF l kn big : Int) == (n : Int) - 1) = true := by simp; omega
          have q2 : ((n : Int) == 0) = false := by simp; omega
          have s1 : IntKind.i64.wrap ((n : Int) - 1) = (n : Int) - 1 := IntWalk.i64_in _ (by omega)
          clear g2
          go_wp2_with fail
          go_quiet (fail)
          go_wp2_with fail
          all_goals (go_ret; exact ⟨rfl, hz.to_drewN _⟩)
        · have q1 : ((endF l kn big : Int) == (n : Int) - 1) = false := by simp; omega
          have q2 : ((n : Int) == 0) = false := by simp; omega
          have s1 : IntKind.i64.wrap ((n : Int) - 1) = (n : Int) - 1 := IntWalk.i64_in _ (by omega)
          obtain ⟨e1, he1⟩ : ∃ e1 : Nat, e1 = endF l kn big + 1 := ⟨_, rfl⟩
          rw [← he1] at g3
          have s3 : (e1 : Int) < (n : Int) := by omega
          have s4 : endF l kn big < n := by omega
          rw [kindAt_in (by rw [hlen.out]; omega), kindAt_in (by rw [hlen.out]; omega)] at g3
          have q3 : (kindF (gI l (endF l kn big)) big != kindF (gI l e1) big) = true := by simpa using g3
          obtain ⟨ad, rfl, hc⟩ := hlZ.at_ s4
          have d1 := hc _ s4
          have d2 := hc e1 (by omega)
          have s2 : IntKind.i64.wrap ((endF l kn big : Int) + 1) = (e1 : Int) := by rw [he1]; exact IntWalk.i64_in _ (by omega)
          clear hc g3 he1
          go_wp2_with fail
          go_quiet ((go_at_call 15; exact wkind_quiet _ _ _ _))
          go_wp2_with fail
          all_goals (go_ret; exact ⟨rfl, hz.to_drewN _⟩)
    · have hz := heY
      have hlZ := hlY
      clear heY hlY hX2
      rcases hB2.out with b0 | ⟨b1, b2, b3⟩
      · rw [b0]
        clear hB2 b0
        rw [hlen.out] at hE2
        rcases hE2.out with ⟨g1, g2⟩ | ⟨g1, g2⟩ | ⟨g1, g2, g3⟩
        · subst g1
          rw [g2]
          clear g2
          first
            | (exfalso; omega)
            | (go_wp2_with fail
               go_quiet (fail)
               go_wp2_with fail
               all_goals (go_ret; exact ⟨rfl, hz.to_drewN _⟩))
        · have q1 : ((endF l kn big : Int) == (n : Int) - 1) = true := by simp; omega
          have q2 : ((n : Int) == 0) = false := by simp; omega
          have s1 : IntKind.i64.wrap ((n : Int) - 1) = (n : Int) - 1 := IntWalk.i64_in _ (by omega)
          clear g2
          go_wp2_with fail
          go_quiet (fail)
          go_wp2_with fail
          all_goals (go_ret; exact ⟨rfl, hz.to_drewN _⟩)
        · have q1 : ((endF l kn big : Int) == (n : Int) - 1) = false := by simp; omega
          have q2 : ((n : Int) == 0) = false := by simp; omega
          have s1 : IntKind.i64.wrap ((n : Int) - 1) = (n : Int) - 1 := IntWalk.i64_in _ (by omega)
          obtain ⟨e1, he1⟩ : ∃ e1 : Nat, e1 = endF l kn big + 1 := ⟨_, rfl⟩
          rw [← he1] at g3
          have s3 : (e1 : Int) < (n : Int) := by omega
          have s4 : endF l kn big < n := by omega
          rw [kindAt_in (by rw [hlen.out]; omega), kindAt_in (by rw [hlen.out]; omega)] at g3
          have q3 : (kindF (gI l (endF l kn big)) big != kindF (gI l e1) big) = true := by simpa using g3
          obtain ⟨ad, rfl, hc⟩ := hlZ.at_ s4
          have d1 := hc _ s4
          have d2 := hc e1 (by omega)
          have s2 : IntKind.i64.wrap ((endF l kn big : Int) + 1) = (e1 : Int) := by rw [he1]; exact IntWalk.i64_in _ (by omega)
          clear hc g3 he1
          go_wp2_with fail
          go_quiet ((go_at_call 15; exact wkind_quiet _ _ _ _))
          go_wp2_with fail
          all_goals (go_ret; exact ⟨rfl, hz.to_drewN _⟩)
      · have HBG := Lib.hid (begins_ok hlZ c3 c4 b3 h1)
        rw [hlen.out] at hE2
        clear hB2
        go_wp2_with fail
        refine HBG.out.mono ?_
        rintro e w8 ⟨rfl, he8⟩
        have hz := hz.trans he8
        have hlZ := hlZ.ext he8
        have c1 := he8.cell c3
        have c2 := he8.cell c4
        clear c3 c4 HBG
        have c3 := c1
        have c4 := c2
        clear c1 c2
        rcases hE2.out with ⟨g1, g2⟩ | ⟨g1, g2⟩ | ⟨g1, g2, g3⟩
        · subst g1
          rw [g2]
          clear g2
          first
            | (exfalso; omega)
            | (go_wp2_with fail
               go_quiet (fail)
               go_wp2_with fail
               all_goals (go_ret; exact ⟨rfl, hz.to_drewN _⟩))
        · have q1 : ((endF l kn big : Int) == (n : Int) - 1) = true := by simp; omega
          have q2 : ((n : Int) == 0) = false := by simp; omega
          have s1 : IntKind.i64.wrap ((n : Int) - 1) = (n : Int) - 1 := IntWalk.i64_in _ (by omega)
          clear g2
          go_wp2_with fail
          go_quiet (fail)
          go_wp2_with fail
          all_goals (go_ret; exact ⟨rfl, hz.to_drewN _⟩)
        · have q1 : ((endF l kn big : Int) == (n : Int) - 1) = false := by simp; omega
          have q2 : ((n : Int) == 0) = false := by simp; omega
          have s1 : IntKind.i64.wrap ((n : Int) - 1) = (n : Int) - 1 := IntWalk.i64_in _ (by omega)
          obtain ⟨e1, he1⟩ : ∃ e1 : Nat, e1 = endF l kn big + 1 := ⟨_, rfl⟩
          rw [← he1] at g3
          have s3 : (e1 : Int) < (n : Int) := by omega
          have s4 : endF l kn big < n := by omega
          rw [kindAt_in (by rw [hlen.out]; omega), kindAt_in (by rw [hlen.out]; omega)] at g3
          have q3 : (kindF (gI l (endF l kn big)) big != kindF (gI l e1) big) = true := by simpa using g3
          obtain ⟨ad, rfl, hc⟩ := hlZ.at_ s4
          have d1 := hc _ s4
          have d2 := hc e1 (by omega)
          have s2 : IntKind.i64.wrap ((endF l kn big : Int) + 1) = (e1 : Int) := by rw [he1]; exact IntWalk.i64_in _ (by omega)
          clear hc g3 he1
          go_wp2_with fail
          go_quiet ((go_at_call 15; exact wkind_quiet _ _ _ _))
          go_wp2_with fail
          all_goals (go_ret; exact ⟨rfl, hz.to_drewN _⟩)
end Go.Proofs.Ytkjlgfokgpdliaa
