/-
  Where two edits meet: the walk of SpliceMeets.
-/
import Derived.Test.YtbdiiopllmhfeaaSplN
namespace Go.Proofs.Ytbdiiopllmhfeaa
open Go.RowKit
set_option linter.unusedVariables false
set_option linter.unusedSimpArgs false

theorem meets_lit : overF 2 [⟨1, 1, [7]⟩] [⟨0, 1, []⟩] true = [⟨0, 0, [7]⟩] := by rfl
theorem meets_chk1 : chkF ((2 : Nat) : Int) [⟨1, 1, [7]⟩] = 0 := by decide +kernel
theorem meets_chk2 : chkF ((2 : Nat) : Int) [⟨0, 1, []⟩] = 0 := by decide +kernel

/-- Both ways come to the same line, and to the same code. -/
theorem over_meets (l : List Int) (n : Nat) (hl : l.length = n) (a b : List Spl) (ahead : Bool) (ha : chkF n a = 0) (hb : chkF n b = 0) :
    appF (appF l 0 a) 0 (overF n b a (!ahead)) = appF (appF l 0 b) 0 (overF n a b ahead) ∧
    chkF (appF l 0 a).length (overF n b a (!ahead)) = chkF (appF l 0 b).length (overF n a b ahead) ∧
    (chkF (appF l 0 a).length (overF n b a (!ahead)) = 0 ∨ chkF (appF l 0 a).length (overF n b a (!ahead)) = 2) := by
  obtain ⟨h1, h2⟩ := over_law l n hl a b ahead hb
  obtain ⟨h3, h4⟩ := over_law l n hl b a (!ahead) ha
  have h5 : appF (appF l 0 a) 0 (overF n b a (!ahead)) = appF (appF l 0 b) 0 (overF n a b ahead) := by rw [h1, h3, ovE_turned l a b ahead]
  have c1 := chk_over (app_max hl hb) h2
  have c2 := chk_over (app_max hl ha) h4
  refine ⟨h5, by rw [c1, c2, h5], ?_⟩
  rw [c2]
  split
  · exact .inl rfl
  · exact .inr rfl

theorem apply_any {e : List Spl} {l : List Int} {A E : Option Addr} {n c m d : Nat} {w : World} (hl : Ints w A n c l) (h : EditAt w E m d e) :
    Calls Try.prog 11 #[.slice A n c, .slice E m d] w fun e' w' => (∃ B q r z, e' = .returned (.tuple #[.slice B q r, .int .i64 z])) ∧ Ext w w' := by
  by_cases hz : chkF n e = 0
  · refine (apply_ok hl h hz).mono ?_
    rintro e' w1 ⟨B, q, r, rfl, _, _, he⟩
    exact ⟨⟨_, _, _, _, rfl⟩, he⟩
  · refine (apply_bad hl h hz).mono ?_
    rintro e' w1 ⟨rfl, he⟩
    exact ⟨⟨_, _, _, _, rfl⟩, he⟩

set_option maxRecDepth 100000 in
set_option maxHeartbeats 8000000 in
theorem spliceMeets_walk {l : List Int} {ea eb : List Spl} {A E F : Option Addr} {n c m d q r : Nat} {ahead : Bool} {w : World} (hl : Ints w A n c l) (ha : EditAt w E m d ea) (hb : EditAt w F q r eb) :
    Calls Try.prog 7 #[.slice A n c, .slice E m d, .slice F q r, .bool ahead] w fun e' w' => e' = .returned (.bool true) ∧ Ext w w' := by
  have hlen := Lib.hid hl.len
  have hx0 : Ext w (((w.alloc (.cells #[.int .i64 7] 3)).alloc (.cells #[.int .i64 1, .int .i64 1, .slice (some ⟨w.heap.size, 0, none⟩) 1 1] 25)).alloc (.cells #[.int .i64 0, .int .i64 1, .slice none 0 0] 25)) := ((Ext.alloc _ _).to_alloc _).to_alloc _
  have hi7 : Ints (((w.alloc (.cells #[.int .i64 7] 3)).alloc (.cells #[.int .i64 1, .int .i64 1, .slice (some ⟨w.heap.size, 0, none⟩) 1 1] 25)).alloc (.cells #[.int .i64 0, .int .i64 1, .slice none 0 0] 25)) (some ⟨w.heap.size, 0, none⟩) 1 1 [7] := ((Blk.ints (l := [7]) (Blk.new w 3 #[.int .i64 7]) rfl (by decide)).ext (Ext.alloc _ _)).ext (Ext.alloc _ _)
  have hbs : Blk ((w.alloc (.cells #[.int .i64 7] 3)).alloc (.cells #[.int .i64 1, .int .i64 1, .slice (some ⟨w.heap.size, 0, none⟩) 1 1] 25)) (w.heap.size + 1) 25 #[.int .i64 1, .int .i64 1, .slice (some ⟨w.heap.size, 0, none⟩) 1 1] := by
    simpa using Blk.new (w.alloc (.cells #[.int .i64 7] 3)) 25 #[.int .i64 1, .int .i64 1, .slice (some ⟨w.heap.size, 0, none⟩) 1 1]
  have hbt : Blk (((w.alloc (.cells #[.int .i64 7] 3)).alloc (.cells #[.int .i64 1, .int .i64 1, .slice (some ⟨w.heap.size, 0, none⟩) 1 1] 25)).alloc (.cells #[.int .i64 0, .int .i64 1, .slice none 0 0] 25)) (w.heap.size + 1 + 1) 25 #[.int .i64 0, .int .i64 1, .slice none 0 0] := by
    have := Blk.new ((w.alloc (.cells #[.int .i64 7] 3)).alloc (.cells #[.int .i64 1, .int .i64 1, .slice (some ⟨w.heap.size, 0, none⟩) 1 1] 25)) 25 #[.int .i64 0, .int .i64 1, .slice none 0 0]
    simp only [World.size_alloc] at this
    exact this
  have HL := Lib.hid (over_ok (ahead := true) (edit_lit1 (hbs.ext (Ext.alloc _ _)) hi7 nofun) (edit_lit1 hbt (Ints.none_ _) (fun _ => rfl)) meets_chk1 meets_chk2)
  rw [meets_lit] at HL
  have HI := Lib.hid hl
  have HA := Lib.hid ha
  have HB := Lib.hid hb
  have hnc := hl.ncap
  have hcm := hl.nmax
  unfold maxLen at hcm
  clear hi7 hbs hbt hl ha hb
  go_enter Try.func7, Try.ntmps7
  go_wp2_with fail
  refine HL.out.mono ?_
  rintro e' w1 ⟨⟨O, k, co, xs, rfl, ho, heo⟩, hx1⟩
  have hk1 : k = 1 := by have := heo.1; have := Own.len ho; simp at *; omega
  subst hk1
  have hx01 := hx0.trans hx1
  have hm1 := made_at ho heo
  have hxz : Ext w1 ((w1.alloc (.cells #[.int .i64 7] 3)).alloc (.cells #[.int .i64 0, .int .i64 0, .slice (some ⟨w1.heap.size, 0, none⟩) 1 1] 25)) := (Ext.alloc _ _).to_alloc _
  have hi7 : Ints ((w1.alloc (.cells #[.int .i64 7] 3)).alloc (.cells #[.int .i64 0, .int .i64 0, .slice (some ⟨w1.heap.size, 0, none⟩) 1 1] 25)) (some ⟨w1.heap.size, 0, none⟩) 1 1 [7] := (Blk.ints (l := [7]) (Blk.new w1 3 #[.int .i64 7]) rfl (by decide)).ext (Ext.alloc _ _)
  have hbs : Blk ((w1.alloc (.cells #[.int .i64 7] 3)).alloc (.cells #[.int .i64 0, .int .i64 0, .slice (some ⟨w1.heap.size, 0, none⟩) 1 1] 25)) (w1.heap.size + 1) 25 #[.int .i64 0, .int .i64 0, .slice (some ⟨w1.heap.size, 0, none⟩) 1 1] := by
    simpa using Blk.new (w1.alloc (.cells #[.int .i64 7] 3)) 25 #[.int .i64 0, .int .i64 0, .slice (some ⟨w1.heap.size, 0, none⟩) 1 1]
  have HSE := Lib.hid (sameEdit_ok (hm1.ext hxz) (edit_lit1 hbs hi7 nofun))
  have hxy := hx01.trans hxz
  clear HL hx0 hx1 ho heo hm1 hxz hi7 hbs hx01
  go_wp2_with fail
  refine HSE.out.mono ?_
  rintro e' w2 ⟨rfl, he2⟩
  have hx2 := hxy.trans he2
  clear HSE hxy he2
  by_cases hz : chkF n ea = 0
  · have HC := Lib.hid (apply_ok (HI.out.ext hx2) (HA.out.ext hx2) hz)
    have HZ := Lib.hid hz
    clear hz
    go_wp2_with fail
    refine HC.out.mono ?_
    rintro e' w3 ⟨B1, q1, r1, rfl, hB1, hn1, he3⟩
    have hx3 := hx2.trans he3
    have HI1 := Lib.hid hB1.ints
    clear HC hB1 he3 hx2
    by_cases hz2 : chkF n eb = 0
    · have HC2 := Lib.hid (apply_ok (HI.out.ext hx3) (HB.out.ext hx3) hz2)
      have HZ2 := Lib.hid hz2
      have HM := Lib.hid (over_meets l n hlen.out ea eb ahead HZ.out hz2)
      clear hz2
      go_wp2_with fail
      refine HC2.out.mono ?_
      rintro e' w4 ⟨B2, q2, r2, rfl, hB2, hn2, he4⟩
      have hx4 := hx3.trans he4
      have HI14 := Lib.hid (HI1.out.ext he4)
      have HI2 := Lib.hid hB2.ints
      have HO4 := Lib.hid (over_ok (ahead := !ahead) (HB.out.ext hx4) (HA.out.ext hx4) HZ2.out HZ.out)
      clear HC2 hB2 he4 hx3 HI1
      go_wp2_with fail
      refine HO4.out.mono ?_
      rintro e' w5 ⟨⟨O5, k5, c5, xs5, rfl, ho5, heo5⟩, he5⟩
      have hx5 := hx4.trans he5
      have HI15 := Lib.hid (HI14.out.ext he5)
      have HI25 := Lib.hid (HI2.out.ext he5)
      have HO5 := Lib.hid (made_at ho5 heo5)
      have HOV := Lib.hid (over_ok (ahead := ahead) (HA.out.ext hx5) (HB.out.ext hx5) HZ.out HZ2.out)
      clear HO4 ho5 heo5 he5 HI14 HI2 hx4
      go_wp2_with fail
      refine HOV.out.mono ?_
      rintro e' w6 ⟨⟨O6, k6, c6, xs6, rfl, ho6, heo6⟩, he6⟩
      have hx6 := hx5.trans he6
      have HI16 := Lib.hid (HI15.out.ext he6)
      have HI26 := Lib.hid (HI25.out.ext he6)
      have HO56 := Lib.hid (HO5.out.ext he6)
      have HO6 := Lib.hid (made_at ho6 heo6)
      have hq1 := HI16.out.len
      have hq2 := HI26.out.len
      have HM2 := HM.out
      rw [hq1, hq2] at HM2
      obtain ⟨M1, M2, M3⟩ := HM2
      clear HOV ho6 heo6 he6 HI15 HI25 HO5 hx5 HM
      by_cases hc : chkF q1 (overF n eb ea (!ahead)) = 0
      · have HP := Lib.hid (apply_ok HI16.out HO56.out hc)
        have HC7 : Hid (chkF q2 (overF n ea eb ahead) = 0) := Lib.hid (by rw [← M2]; exact hc)
        have HM1 := Lib.hid M1
        clear hc M1 M2 M3 hq1 hq2
        go_wp2_with fail
        refine HP.out.mono ?_
        rintro e' w7 ⟨B7, q7, r7, rfl, hB7, hn7, he7⟩
        have HP2 := Lib.hid (apply_ok (HI26.out.ext he7) (HO6.out.ext he7) HC7.out)
        have HB7 := Lib.hid hB7.ints
        have hx7 := hx6.trans he7
        clear HP hB7 he7
        go_wp2_with fail
        refine HP2.out.mono ?_
        rintro e' w8 ⟨B8, q8, r8, rfl, hB8, hn8, he8⟩
        have hi8 := hB8.ints
        rw [← HM1.out] at hi8
        have HEq := Lib.hid (equal_same (HB7.out.ext he8) hi8)
        have hx8 := hx7.trans he8
        clear HP2 hB8 he8 HB7 hi8
        go_wp2_with fail
        refine HEq.out.mono ?_
        rintro e' w9 ⟨rfl, he9⟩
        go_wp2_with fail
        go_ret
        exact ⟨rfl, hx8.trans he9⟩
      · have hc2 : chkF q1 (overF n eb ea (!ahead)) = 2 := by rcases M3 with h | h; exact absurd h hc; exact h
        have hc3 : chkF q2 (overF n ea eb ahead) = 2 := by rw [← M2]; exact hc2
        have HP := Lib.hid (apply_bad HI16.out HO56.out hc)
        rw [hc2] at HP
        have HC3 := Lib.hid hc3
        clear hc hc2 hc3 M1 M2 M3 hq1 hq2
        go_wp2_with fail
        refine HP.out.mono ?_
        rintro e' w7 ⟨rfl, he7⟩
        have HP2 := Lib.hid (apply_bad (HI26.out.ext he7) (HO6.out.ext he7) (by rw [HC3.out]; decide))
        rw [HC3.out] at HP2
        have hx7 := hx6.trans he7
        clear HP he7
        go_wp2_with fail
        refine HP2.out.mono ?_
        rintro e' w8 ⟨rfl, he8⟩
        have HEq := Lib.hid (equal_same (Ints.none_ w8) (Ints.none_ w8))
        have hx8 := hx7.trans he8
        clear HP2 he8
        go_wp2_with fail
        refine HEq.out.mono ?_
        rintro e' w9 ⟨rfl, he9⟩
        go_wp2_with fail
        go_ret
        exact ⟨rfl, hx8.trans he9⟩
    · have HC2 := Lib.hid (apply_bad (HI.out.ext hx3) (HB.out.ext hx3) hz2)
      generalize chkF n eb = z at *
      have b1 : (z != 0) = true := by simpa using hz2
      clear hz2
      go_wp2_with fail
      refine HC2.out.mono ?_
      rintro e' w4 ⟨rfl, he4⟩
      have hx4 := hx3.trans he4
      clear HC2
      go_wp2_with fail
      go_ret
      exact ⟨rfl, hx4⟩
  · have HC := Lib.hid (apply_bad (HI.out.ext hx2) (HA.out.ext hx2) hz)
    generalize chkF n ea = z at *
    have b1 : (z != 0) = true := by simpa using hz
    clear hz
    go_wp2_with fail
    refine HC.out.mono ?_
    rintro e' w3 ⟨rfl, he3⟩
    have hx3 := hx2.trans he3
    have HC2 := Lib.hid (apply_any (HI.out.ext hx3) (HB.out.ext hx3))
    clear HC
    go_wp2_with fail
    refine HC2.out.mono ?_
    rintro e' w4 ⟨⟨B2, q2, r2, z2, rfl⟩, he4⟩
    have hx4 := hx3.trans he4
    clear HC2
    go_wp2_with fail
    go_ret
    exact ⟨rfl, hx4⟩
end Go.Proofs.Ytbdiiopllmhfeaa
