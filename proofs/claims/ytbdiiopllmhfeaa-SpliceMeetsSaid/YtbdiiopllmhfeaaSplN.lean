/-
  Over nothing, and nothing over: the walk of SpliceNone.
-/
import Derived.Test.YtbdiiopllmhfeaaSplV
import Derived.Test.YtbdiiopllmhfeaaSplK
import Derived.Test.YtbdiiopllmhfeaaSplB
namespace Go.Proofs.Ytbdiiopllmhfeaa
open Go.RowKit
set_option linter.unusedVariables false
set_option linter.unusedSimpArgs false

theorem none_lit : overF 1 [⟨0, 1, [7]⟩] [⟨0, 1, [7]⟩] true = [⟨0, 0, [7]⟩] := by rfl
theorem none_chk : chkF ((1 : Nat) : Int) [⟨0, 1, [7]⟩] = 0 := by decide +kernel
/-- The edit that was made, as a slice. -/
theorem made_at {w : World} {base k c : Nat} {O : Option Addr} {row : Option Nat} {xs : List Value} {e : List Spl} (h : Own w base 25 3 O k c xs) (he : EditsO w base row xs e) : EditAt w O k c e := ⟨xs, Own.rd h, he.edits⟩

set_option maxRecDepth 100000 in
set_option maxHeartbeats 8000000 in
theorem spliceNone_walk {l : List Int} {e : List Spl} {A E : Option Addr} {n c m d : Nat} {ahead : Bool} {w : World} (hl : Ints w A n c l) (h : EditAt w E m d e) :
    Calls Try.prog 8 #[.slice A n c, .slice E m d, .bool ahead] w fun e' w' => e' = .returned (.bool true) ∧ Ext w w' := by
  have hlen := Lib.hid hl.len
  have hx0 : Ext w ((w.alloc (.cells #[.int .i64 7] 3)).alloc (.cells #[.int .i64 0, .int .i64 1, .slice (some ⟨w.heap.size, 0, none⟩) 1 1] 25)) := (Ext.alloc _ _).to_alloc _
  have hi7 : Ints ((w.alloc (.cells #[.int .i64 7] 3)).alloc (.cells #[.int .i64 0, .int .i64 1, .slice (some ⟨w.heap.size, 0, none⟩) 1 1] 25)) (some ⟨w.heap.size, 0, none⟩) 1 1 [7] := (Blk.ints (l := [7]) (Blk.new w 3 #[.int .i64 7]) rfl (by decide)).ext (Ext.alloc _ _)
  have hbs : Blk ((w.alloc (.cells #[.int .i64 7] 3)).alloc (.cells #[.int .i64 0, .int .i64 1, .slice (some ⟨w.heap.size, 0, none⟩) 1 1] 25)) (w.heap.size + 1) 25 #[.int .i64 0, .int .i64 1, .slice (some ⟨w.heap.size, 0, none⟩) 1 1] := by
    simpa using Blk.new (w.alloc (.cells #[.int .i64 7] 3)) 25 #[.int .i64 0, .int .i64 1, .slice (some ⟨w.heap.size, 0, none⟩) 1 1]
  have he1 := edit_lit1 hbs hi7 nofun
  have HL := Lib.hid (over_ok (ahead := true) he1 he1 none_chk none_chk)
  rw [none_lit] at HL
  have HI := Lib.hid hl
  have HE := Lib.hid h
  have hnc := hl.ncap
  have hcm := hl.nmax
  unfold maxLen at hcm
  clear hi7 hbs he1 hl h
  go_enter Try.func8, Try.ntmps8
  go_wp2_with fail
  refine HL.out.mono ?_
  rintro e' w1 ⟨⟨O, k, co, xs, rfl, ho, heo⟩, hx1⟩
  have hk1 : k = 1 := by have := heo.1; have := Own.len ho; simp at *; omega
  subst hk1
  have hx01 := hx0.trans hx1
  have hm1 := made_at ho heo
  have hxz : Ext w1 ((w1.alloc (.cells #[.int .i64 7] 3)).alloc (.cells #[.int .i64 0, .int .i64 0, .slice (some ⟨w1.heap.size, 0, none⟩) 1 1] 25)) := (Ext.alloc _ _).to_alloc _
  have hi7 : Ints ((w1.alloc (.cells #[.int .i64 7] 3)).alloc (.cells #[.int .i64 0, .int .i64 0, .slice (some ⟨w1.heap.size, 0, none⟩) 1 1] 25)) (some ⟨w1.heap.size, 0, none⟩) 1 1 [7] := (Blk.ints (l := [7]) (Blk.new w1 3 #[.int .i64 7]) rfl (by decide)).ext (Ext.alloc _ _)
  have hbs : Blk ((w1.alloc (.cells #[.int .i64 7] 3)).alloc (.cells #[.int .i64 0, .int .i64 0, .slice (some ⟨w1.heap.size, 0, none⟩) 1 1] 25)) (w1.heap.size + 1) 25 #[.int .i64 0, .int .i64 0, .slice (some ⟨w1.heap.size, 0, none⟩) 1 1] := by
    simpa using Blk.new (w1.alloc (.cells #[.int .i64 7] 3)) 25 #[.int .i64 0, .int .i64 0, .slice (some ⟨w1.heap.size, 0, none⟩) 1 1]
  have HSE := Lib.hid (sameEdit_ok (hm1.ext hxz) (edit_lit1 hbs hi7 nofun))
  have hxy := hx01.trans hxz
  clear HL hx0 hx1 ho heo hm1 hxz hi7 hbs hx01
  go_wp2_with fail
  refine HSE.out.mono ?_
  rintro e' w2 ⟨rfl, he2⟩
  have hx2 := hxy.trans he2
  clear HSE hxy he2
  by_cases hz : chkF n e = 0
  · have HC := Lib.hid (apply_ok (HI.out.ext hx2) (HE.out.ext hx2) hz)
    have hn4 : n ≤ 4096 := by have := (chkF_zero.1 hz).2.1; omega
    have HN0 : Hid (chkF n [] = 0) := Lib.hid (by unfold chkF; rw [if_neg (by omega)]; simp only [chkL]; rw [if_neg (by omega)])
    have HZ := Lib.hid hz
    have HOV := Lib.hid (over_alone l n hlen.out e ahead hz)
    clear hz
    go_wp2_with fail
    refine HC.out.mono ?_
    rintro e' w3 ⟨B1, q1, r1, rfl, hB1, hn1, he3⟩
    have hx3 := hx2.trans he3
    have HI1 := Lib.hid hB1.ints
    have HO1 := Lib.hid (over_ok (ahead := ahead) (HE.out.ext hx3) (EditAt.none_ w3) HZ.out HN0.out)
    have hbq := hB1.ints.nmax
    have hbr := hB1.ints.ncap
    unfold maxLen at hbq
    clear HC hB1 hn1
    go_wp2_with fail
    refine HO1.out.mono ?_
    rintro e' w4 ⟨⟨O4, k4, c4, xs4, rfl, ho4, heo4⟩, he4⟩
    have hx4 := hx3.trans he4
    have HA4 := Lib.hid (apply_ok (HI.out.ext hx4) (made_at ho4 heo4) HOV.out.2)
    rw [HOV.out.1] at HA4
    have HI4 := Lib.hid (HI1.out.ext he4)
    clear HO1 ho4 heo4 HI1 he4
    go_wp2_with fail
    refine HA4.out.mono ?_
    rintro e' w5 ⟨B5, q5, r5, rfl, hB5, hn5, he5⟩
    have hx5 := hx4.trans he5
    have HO5 := Lib.hid (over_ok (ahead := ahead) (EditAt.none_ w5) (HE.out.ext hx5) HN0.out HZ.out)
    rw [over_nothing] at HO5
    have HI5 := Lib.hid hB5.ints
    have HI45 := Lib.hid (HI4.out.ext he5)
    clear HA4 HI4 hB5 hn5 he5
    go_wp2_with fail
    refine HO5.out.mono ?_
    rintro e' w6 ⟨⟨O6, k6, c6, xs6, rfl, ho6, heo6⟩, he6⟩
    have hk6 : k6 = 0 := by
      have h1 := heo6.1
      have h2 := Own.len ho6
      simp only [List.length_nil] at h1
      omega
    subst hk6
    have hx6 := hx5.trans he6
    have HEq := Lib.hid (equal_same (HI45.out.ext he6) (HI5.out.ext he6))
    clear HO5 HI5 HI45 ho6 heo6 he6
    go_wp2_with fail
    refine HEq.out.mono ?_
    rintro e' w7 ⟨rfl, he7⟩
    go_wp2_with fail
    go_ret
    exact ⟨rfl, hx6.trans he7⟩
  · have HC := Lib.hid (apply_bad (HI.out.ext hx2) (HE.out.ext hx2) hz)
    generalize chkF n e = z at *
    have b1 : (z != 0) = true := by simpa using hz
    clear hz
    go_wp2_with fail
    refine HC.out.mono ?_
    rintro e' w3 ⟨rfl, he3⟩
    have hx3 := hx2.trans he3
    clear HC
    go_wp2_with fail
    go_ret
    exact ⟨rfl, hx3⟩
end Go.Proofs.Ytbdiiopllmhfeaa
