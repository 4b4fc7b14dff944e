/-
  The walk of KeysBack.
-/
import Derived.Test.YtpgffhmcangllaaKeyP
import Derived.Test.YtpgffhmcangllaaEq
import Derived.Deep.DeepCutAuto
import Derived.Deep.CutRange
namespace Go.Proofs.Ytpgffhmcangllaa
open Go.RowKit
set_option linter.unusedVariables false
set_option linter.unusedSimpArgs false

theorem told_dw : Told ⟨12, 97, 100, 119, 0⟩ := ⟨by decide, by decide, .inr rfl, .inr rfl, .inr (.inl ⟨rfl, rfl, fun h => absurd (show (119 : Int) = 48 from h) (by decide)⟩)⟩
theorem keys_dw : keysF ⟨12, 97, 100, 119, 0⟩ = chars ⟨#[34, 97, 49, 50, 100, 119]⟩ := by decide +kernel

/-- All, where it answers one command and nothing is left. -/
theorem all_one {l : List Int} {A : Option Addr} {n c : Nat} {x : Cm} {w : World} (hl : Ints w A n c l) (hn : n ≤ 4194304) (h : allA l = ⟨[x], Pt.zero, 0⟩) :
    Calls Try.prog 6 #[.slice A n c] w fun e w' => ∃ O d, e = .returned (.tuple #[.slice (some O) 1 d, .agg #[.int .i64 0, .int .i64 0, .int .i64 0, .int .i64 0, .int .i64 0], .int .i64 0]) ∧ Hid (Cms w' (some O) 1 d [x]) ∧ Ext w w' := by
  have := all_ok hl hn
  rw [h] at this
  refine this.mono ?_
  rintro e w' ⟨O, q, d, he, hr, hx⟩
  obtain rfl : q = 1 := by
    have h9 := Rd.len hr
    rw [rowC_len] at h9
    simp at h9
    omega
  have hr2 : Cms w' O 1 d [x] := hr
  obtain ⟨ad, _, rfl, _⟩ := hr2.at_ (k := 0) (by omega)
  exact ⟨ad, d, he, Lib.hid hr2, hx⟩

set_option maxRecDepth 100000 in
set_option maxHeartbeats 8000000 in
theorem keysBack_walk {f r o v a : Int} {l : List Int} {A : Option Addr} {n c : Nat} {w : World} (hl : Ints w A n c l) (hn : n ≤ 1048576) :
    Calls Try.prog 4 #[.agg #[.int .i64 f, .int .i64 r, .int .i64 o, .int .i64 v, .int .i64 a], .slice A n c] w fun e w' => e = .returned (.bool true) ∧ Ext w w' := by
  have HI := Lib.hid hl
  have hb := Lib.hid (Blk.new w 32 #[.int .i64 f, .int .i64 r, .int .i64 o, .int .i64 v, .int .i64 a])
  have hx0 := Lib.hid (Ext.alloc w (.cells #[.int .i64 f, .int .i64 r, .int .i64 o, .int .i64 v, .int .i64 a] 32))
  have HW := fun w => Lib.hid (write_told w told_dw)
  rw [keys_dw] at HW
  clear hl
  go_enter Try.func4, Try.ntmps4
  go_wp2_with fail
  refine ((HW _).out).mono ?_
  rintro e w1 ⟨O1, q1, d1, rfl, OA, he1⟩
  have hx1 := Lib.hid (hx0.out.trans he1)
  have hb1 := Lib.hid (hb.out.ext he1)
  have IA := Lib.hid OA.ints
  have HOf := Lib.hid (of_ok ⟨#[34, 97, 49, 50, 100, 119]⟩ w1 (by decide))
  clear HW hx0 hb OA he1
  go_wp2_with fail
  refine HOf.out.mono ?_
  rintro e w2 ⟨B2, c2, rfl, o2, he2⟩
  have HQ := Lib.hid (equal_ext (IA.out.ext he2) o2.ints)
  rw [eqB_true.2 rfl] at HQ
  have hx2 := Lib.hid (hx1.out.trans he2)
  have hb2 := Lib.hid (Blk.ext hb1.out he2)
  clear HOf o2 he2 hx1 hb1 IA
  go_wp2_with fail
  refine HQ.out.mono ?_
  rintro e w3 ⟨rfl, he3⟩
  have hx3 := Lib.hid (hx2.out.trans he3)
  have hb3 := Lib.hid (Blk.ext hb2.out he3)
  have HW := Lib.hid (write_any (f := f) (r := r) (o := o) (v := v) (a := a) w3)
  obtain ⟨⟨c0, c1, c2, c3, c4⟩, _⟩ := hb3.out.five
  clear HQ he3 hx2 hb2
  go_wp2_with fail
  refine HW.out.mono ?_
  rintro e w4 ⟨he4, hw⟩
  have hx4 := Lib.hid (hx3.out.trans he4)
  have hb4 := Lib.hid (Blk.ext hb3.out he4)
  have Hw := Lib.hid hw
  clear HW hx3 hb3 c0 c1 c2 c3 c4 he4 hw
  -- what was written is told again
  obtain ⟨O, q, d, ee, rfl, hcase⟩ : ∃ (O : Option Addr) (q d : Nat) (ee : Int), e = .returned (.tuple #[.slice O q d, .int .i64 ee]) ∧ Hid ((ee ≠ 0) ∨ (ee = 0 ∧ OwnI w4 w3.heap.size O q d (keysF ⟨f, r, o, v, a⟩) ∧ allA (keysF ⟨f, r, o, v, a⟩) = ⟨[⟨f, r, o, v, a⟩], Pt.zero, 0⟩)) := by
    rcases Hw.out with ⟨k, h1, h2, _⟩ | ⟨O, q, d, h1, h2, h3⟩
    · exact ⟨none, 0, 0, k, h1, Lib.hid (.inl h2)⟩
    · exact ⟨O, q, d, 0, h1, Lib.hid (.inr ⟨rfl, h2, h3⟩)⟩
  clear Hw
  go_upto_if 41 with fail
  go_cut [] (fun wx => Hid (Ext w4 wx))
  case first =>
    rcases hcase.out with h | ⟨rfl, OB, hall⟩
    · have h1 : (ee == 0) = false := by simpa using h
      clear hcase h
      go_wp2_with fail
      go_meet
      exact Lib.hid (Ext.refl _)
    · have hlen := OB.ints.len
      have hq8 := keysF_len ⟨f, r, o, v, a⟩
      have HAl := Lib.hid (all_one OB.ints (by omega) hall)
      clear hcase OB hall hlen hq8
      go_wp2_with fail
      refine HAl.out.mono ?_
      rintro e w5 ⟨L, y, rfl, HL, he5⟩
      have ea := Ext.alloc w5 (.cells #[.int .i64 0, .int .i64 0, .int .i64 0, .int .i64 0, .int .i64 0] 25)
      have ht7 := Blk.new w5 25 #[.int .i64 0, .int .i64 0, .int .i64 0, .int .i64 0, .int .i64 0]
      obtain ⟨⟨c0, c1, c2, c3, c4⟩, _⟩ := ((Blk.ext hb4.out he5).ext ea).five
      obtain ⟨⟨e0, e1, e2, e3, e4⟩, _⟩ := ht7.five
      have HL2 : Cms (w5.alloc (.cells #[.int .i64 0, .int .i64 0, .int .i64 0, .int .i64 0, .int .i64 0] 25)) (some L) 1 y [⟨f, r, o, v, a⟩] := Rd.ext HL.out ea
      obtain ⟨ad, x, hxe, hx, a0, a1, a2, a3, a4⟩ := HL2.at_ (k := 0) (by omega)
      injection hxe with hxe
      subst hxe
      obtain rfl : x = ⟨f, r, o, v, a⟩ := by simpa using hx.symm
      simp only [Nat.zero_mul, add_nought] at a0 a1 a2 a3 a4
      have hend := Lib.hid (he5.trans ea)
      have hg := (Blk.ext hb4.out he5).lt
      clear HAl HL he5 ea ht7 HL2 hx
      go_upto_region 7 with fail
      go_quiet (fail)
      go_wp2_with fail
      go_meet
      exact Lib.hid (hend.out.to_drewN _)
  case rest =>
    have hx5 := Lib.hid (hx4.out.trans hcut.out)
    have HIl := Lib.hid (HI.out.ext hx5.out)
    have HAl := Lib.hid (all_ok HIl.out (by omega))
    have HTo := Lib.hid (told_all l)
    rcases hA : allA l with ⟨out, ⟨p0, p1, p2, p3, p4⟩, wr⟩
    rw [hA] at HAl HTo
    unfold ptV at HAl
    simp only at HAl HTo
    have hbc := Lib.hid (Blk.ext hb4.out hcut.out)
    clear hA hcase hb4 hx4 hcut HIl
    go_wp2_with fail
    refine HAl.out.mono ?_
    rintro e w6 ⟨M, z, y, rfl, rM, he6⟩
    have hx6 := Lib.hid ((hx5.out.trans he6).trans (Ext.alloc w6 (.cells #[.int .i64 p0, .int .i64 p1, .int .i64 p2, .int .i64 p3, .int .i64 p4] 25)))
    have HM : Hid (Cms (w6.alloc (.cells #[.int .i64 p0, .int .i64 p1, .int .i64 p2, .int .i64 p3, .int .i64 p4] 25)) M z y out) := Lib.hid (Rd.ext rM (Ext.alloc _ _))
    have hzm : z ≤ 9223372036854775807 := by
      have h1 := rM.ncap
      have h2 := rM.nmax
      unfold maxLen at h2
      omega
    clear HAl rM he6 hx5
    go_wp2_with fail
    generalize w6.alloc (.cells #[.int .i64 p0, .int .i64 p1, .int .i64 p2, .int .i64 p3, .int .i64 p4] 25) = w7 at *
    go_loopw [75] (fun s75 wx => ∃ k : Nat, k ≤ z ∧ s75 = .int .i64 k ∧ Hid (Cms wx M z y out) ∧ Hid (Ext w wx)) (fun s75 _ => z - (intOf s75).toNat)
    case atStart => exact ⟨0, by omega, rfl, HM, hx6⟩
    case round =>
      clear HM hx6
      obtain ⟨k, hk, rfl, HMr, HXr⟩ := hrel
      by_cases hlt : k < z
      · obtain ⟨ad, x, rfl, hx, a0, a1, a2, a3, a4⟩ := HMr.out.at_ hlt
        have hT : Told x := HTo.out x (List.mem_of_getElem? hx)
        obtain ⟨x0, x1, x2, x3, x4⟩ := x
        have HW := fun w => Lib.hid (write_told w hT)
        have hag := Lib.hid (told_again hT)
        simp only at a0 a1 a2 a3 a4
        have HXb : Hid (Blk (wr.alloc (.cells #[.int .i64 x0, .int .i64 x1, .int .i64 x2, .int .i64 x3, .int .i64 x4] 32)) wr.heap.size 32 #[.int .i64 x0, .int .i64 x1, .int .i64 x2, .int .i64 x3, .int .i64 x4]) := Lib.hid (Blk.new _ _ _)
        clear hx hT
        go_wp2_with fail
        refine ((HW _).out).mono ?_
        rintro e w8 ⟨O8, q8, d8, rfl, O8', he8⟩
        have hq8 : q8 ≤ 8 := by have h1 := O8'.ints.len; have h2 := keysF_len ⟨x0, x1, x2, x3, x4⟩; omega
        have hqi : (q8 : Int) ≤ 8 := by omega
        have HAl := Lib.hid (all_one O8'.ints (by omega) hag.out)
        have HXb8 := Lib.hid (HXb.out.ext he8)
        have HX8 := Lib.hid ((HXr.out.to_alloc _).trans he8)
        have HM8 := Lib.hid (Rd.ext (Rd.ext HMr.out (Ext.alloc wr _)) he8)
        clear HW O8' he8 HXb HXr HMr a0 a1 a2 a3 a4
        go_wp2_with fail
        refine HAl.out.mono ?_
        rintro e w9 ⟨L, y9, rfl, HL, he9⟩
        have ea := Ext.alloc w9 (.cells #[.int .i64 0, .int .i64 0, .int .i64 0, .int .i64 0, .int .i64 0] 25)
        obtain ⟨⟨c0, c1, c2, c3, c4⟩, _⟩ := ((Blk.ext HXb8.out he9).ext ea).five
        have HL2 : Cms (w9.alloc (.cells #[.int .i64 0, .int .i64 0, .int .i64 0, .int .i64 0, .int .i64 0] 25)) (some L) 1 y9 [⟨x0, x1, x2, x3, x4⟩] := Rd.ext HL.out ea
        obtain ⟨ad2, x', hxe, hx', a0, a1, a2, a3, a4⟩ := HL2.at_ (k := 0) (by omega)
        injection hxe with hxe
        subst hxe
        obtain rfl : x' = ⟨x0, x1, x2, x3, x4⟩ := by simpa using hx'.symm
        simp only [Nat.zero_mul, add_nought] at a0 a1 a2 a3 a4
        have HX9 := Lib.hid (HX8.out.trans (he9.trans ea))
        have HM9 : Hid (Cms (w9.alloc (.cells #[.int .i64 0, .int .i64 0, .int .i64 0, .int .i64 0, .int .i64 0] 25)) (some ad) z y out) := Lib.hid (Rd.ext HM8.out (he9.trans ea))
        clear HAl HL he9 ea HL2 hx' HX8 HM8
        go_upto_region 15 with fail
        go_quiet (fail)
        go_wp2_with fail
        go_roundw
        case rel => exact ⟨k + 1, by omega, by go_num, Lib.hid (Rd.ext HM9.out (Ext.drewN _ _)), Lib.hid (HX9.out.to_drewN _)⟩
        case measure => simp [intOf]; omega
      · obtain rfl : k = z := by omega
        have hend := HXr.out
        clear HMr HXr
        go_wp2_with fail
        go_ret
        exact ⟨rfl, hend⟩
end Go.Proofs.Ytpgffhmcangllaa
