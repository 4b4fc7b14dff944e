/-
  The walk of PaintMakes.
-/
import Derived.Test.YthphlghblmindaaPaiT
import Derived.Test.YthphlghblmindaaTermY
namespace Go.Proofs.Ythphlghblmindaa
open Go.RowKit
set_option linter.unusedVariables false
set_option linter.unusedSimpArgs false

theorem rowOk_lit {s : ByteArray} {a : Nat} (h1 : 2 ≤ s.size) (h2 : s.size ≤ 120) (h3 : a ≤ s.size) (h4 : (chars s).all (fun c => decide (32 ≤ c) && decide (c ≠ 127)) = true) (h5 : (chars s).length = s.size) : rowOk (chars s) s.size a := by
  refine ⟨h1, h2, by omega, by omega, fun k hk => ?_⟩
  have h6 := List.all_eq_true.1 h4 (gI (chars s) k) (by
    unfold gI
    rw [List.getElem?_eq_getElem (by omega)]
    exact List.getElem_mem _)
  simp only [Bool.and_eq_true, decide_eq_true_eq] at h6
  exact h6
theorem mk_lit : signsF (chars ⟨#[97, 98, 99]⟩) 0 (chars ⟨#[97, 98, 100]⟩) 3 = chars ⟨#[97, 98, 100]⟩ := by decide +kernel
theorem nat_of {a : Int} (h : 0 ≤ a) : ∃ k : Nat, a = k := ⟨a.toNat, by omega⟩

set_option maxRecDepth 100000 in
set_option maxHeartbeats 8000000 in
theorem paintMakes_walk {l m : List Int} {A B : Option Addr} {n c q d : Nat} {a b : Int} {w : World} (hl : Ints w A n c l) (hA : A = none → c = 0) (hm : Ints w B q d m) (hB : B = none → d = 0) :
    Calls Try.prog 8 #[.agg #[.slice A n c, .int .i64 a], .agg #[.slice B q d, .int .i64 b]] w fun e w' => e = .returned (.bool true) ∧ Ext w w' := by
  have hx0 : Ext w ((w.alloc (.cells #[.slice A n c, .int .i64 a] 34)).alloc (.cells #[.slice B q d, .int .i64 b] 34)) := (Ext.alloc _ _).to_alloc _
  have b2 := (Blk.new w 34 #[.slice A n c, .int .i64 a]).ext (Ext.alloc _ (.cells #[.slice B q d, .int .i64 b] 34))
  have b3 := Blk.new (w.alloc (.cells #[.slice A n c, .int .i64 a] 34)) 34 #[.slice B q d, .int .i64 b]
  rw [World.size_alloc] at b3
  have hall := And.intro (Lib.hid hx0) (And.intro (Lib.hid b2) (And.intro (Lib.hid b3) (And.intro (Lib.hid (hl.ext hx0)) (Lib.hid (hm.ext hx0)))))
  have HAA := Lib.hid hA
  have HBB := Lib.hid hB
  have HLN := Lib.hid hl.len
  have HMN := Lib.hid hm.len
  clear hx0 b2 b3 hl hm hA hB
  go_enter Try.func8, Try.ntmps8
  go_upto_region 1 with fail
  revert hall
  generalize (w.alloc (.cells #[.slice A n c, .int .i64 a] 34)).alloc (.cells #[.slice B q d, .int .i64 b] 34) = W
  obtain ⟨p2, hp2⟩ : ∃ p2, w.heap.size = p2 := ⟨_, rfl⟩
  obtain ⟨p3, hp3⟩ : ∃ p3, w.heap.size + 1 = p3 := ⟨_, rfl⟩
  rw [hp3, hp2]
  clear hp2 hp3
  rintro ⟨HX, b2, b3, HL, HM⟩
  go_wp2_with fail
  refine (row_made _ _ _ (by decide)).mono ?_
  rintro e w1 ⟨⟨A1, c1, rfl, ho1⟩, he1⟩
  go_wp2_with fail
  refine (row_made _ _ _ (by decide)).mono ?_
  rintro e w2 ⟨⟨A2, c2, rfl, ho2⟩, he2⟩
  have HS := Lib.hid (signs_ok (st := 0) (at_ := 3) (ho1.ints.ext he2) ho2.ints (own_cap ho2) (rowOk_lit (by decide) (by decide) (by decide) (by decide +kernel) (by decide +kernel)) (rowOk_lit (by decide) (by decide) (by decide) (by decide +kernel) (by decide +kernel)) rfl)
  rw [mk_lit] at HS
  have HX2 := Lib.hid (HX.out.trans (he1.trans he2))
  have HE2 := Lib.hid (he1.trans he2)
  clear ho1 ho2 he1 he2
  go_wp2_with fail
  refine HS.out.mono ?_
  rintro e w3 ⟨S3, q3, r3, rfl, ho3, he3⟩
  have HO3 := Lib.hid ho3
  have HE3 := Lib.hid (HE2.out.trans he3)
  clear HS ho3 he3 HX2 HE2
  go_wp2_with fail
  refine (of_ok _ _ (by decide)).mono ?_
  rintro e w4 ⟨A4, c4, rfl, ho4, he4⟩
  have HQ := Lib.hid (equal_ext (HO3.out.ints.ext he4) ho4.ints)
  rw [eqB_true.2 rfl] at HQ
  have HE4 := Lib.hid (HE3.out.trans he4)
  clear ho4 he4 HO3 HE3
  go_wp2_with fail
  refine HQ.out.mono ?_
  rintro e w5 ⟨rfl, he5⟩
  have HE5 := Lib.hid (HE4.out.trans he5)
  clear HQ he5 HE4
  have HB2 := Lib.hid (b2.out.ext HE5.out)
  have HB3 := Lib.hid (b3.out.ext HE5.out)
  have HL5 := Lib.hid (HL.out.ext HE5.out)
  have HM5 := Lib.hid (HM.out.ext HE5.out)
  have HX5 := Lib.hid (HX.out.trans HE5.out)
  clear b2 b3 HL HM HX HE5
  obtain ⟨k20, k21⟩ := cells2J HB2.out
  obtain ⟨k30, k31⟩ := cells2J HB3.out
  by_cases hg : rowOk l n a ∧ rowOk m q b ∧ n = q
  · obtain ⟨g1, g2, rfl⟩ := hg
    obtain ⟨a0, rfl⟩ := nat_of g1.2.2.1
    obtain ⟨b0, rfl⟩ := nat_of g2.2.2.1
    have HSG := Lib.hid (signs_ok HL5.out HM5.out HBB.out g1 g2 rfl)
    have HLAW := Lib.hid (signs_law (a := l) (b := m) (st := a0) (at_ := b0) (by rw [HLN.out, HMN.out]) (by
      intro k hk
      rw [HMN.out] at hk
      exact g2.2.2.2.2 k hk) (by rw [HMN.out]; have := g1.2.2.2.1; omega) (by rw [HMN.out]; have := g2.2.2.2.1; omega)).1
    have G1 := Lib.hid g1
    clear g1 g2
    revert HSG HLAW
    generalize signsF l a0 m b0 = sg
    intro HSG HLAW
    go_wp2_with fail
    refine HSG.out.mono ?_
    rintro e w6 ⟨S6, q6, r6, rfl, ho6, he6⟩
    have HSH := Lib.hid (show_ok (HL5.out.ext he6) HAA.out ho6.ints G1.out)
    rw [HLAW.out] at HSH
    have HE6 := Lib.hid he6
    obtain ⟨k20, k21⟩ := cells2J (HB2.out.ext he6)
    clear HSG ho6 he6 k30 k31
    go_wp2_with fail
    refine HSH.out.mono ?_
    rintro e w7 ⟨⟨s7, d7, rfl, ho7⟩, he7⟩
    have HE7 := Lib.hid (HE6.out.trans he7)
    have HX8 := Lib.hid (Ext.alloc w7 (.cells #[.slice (some ⟨s7, 0, none⟩) n d7, .int .i64 (b0 : Int)] 34))
    have HB9 := Lib.hid (Blk.new w7 34 #[.slice (some ⟨s7, 0, none⟩) n d7, .int .i64 (b0 : Int)])
    obtain ⟨k90, k91⟩ := cells2J HB9.out
    obtain ⟨k30, k31⟩ := cells2J (HB3.out.ext (HE7.out.trans HX8.out))
    have HSR := Lib.hid (sameRow_ok (a := (b0 : Int)) (ho7.ints.ext HX8.out) (HM5.out.ext (HE7.out.trans HX8.out)))
    clear HSH ho7 he7 HE6 k20 k21
    go_wp2_with fail
    refine HSR.out.mono ?_
    rintro e w9 ⟨rfl, he9⟩
    go_wp2_with fail
    go_ret
    exact ⟨rfl, HX5.out.trans (HE7.out.trans (HX8.out.trans he9))⟩
  · have HSG := Lib.hid (signs_bad HL5.out HM5.out hg)
    clear hg
    go_wp2_with fail
    refine HSG.out.mono ?_
    rintro e w6 ⟨⟨z, hz, rfl⟩, he6⟩
    have hz1 : (z != 0) = true := by simpa using hz
    clear HSG hz
    go_wp2_with fail
    go_ret
    exact ⟨rfl, HX5.out.trans he6⟩
end Go.Proofs.Ythphlghblmindaa
