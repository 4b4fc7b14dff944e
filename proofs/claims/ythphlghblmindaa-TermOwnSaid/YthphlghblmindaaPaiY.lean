/-
  The walk of PaintFew.
-/
import Derived.Test.YthphlghblmindaaPaiX
namespace Go.Proofs.Ythphlghblmindaa
open Go.RowKit
set_option linter.unusedVariables false
set_option linter.unusedSimpArgs false

theorem few_lit : signsF (chars ⟨#[97, 98, 99, 100, 101, 102]⟩) 6 (chars ⟨#[32, 32, 32, 32, 32, 32]⟩) 0 = [13, 11] := by decide +kernel
/-- Are two rows one? -/
def sameB (l m : List Int) (a b : Int) : Bool := (a == b) && eqB l m
theorem sameB_true {l m : List Int} {a b : Int} : sameB l m a b = true ↔ a = b ∧ l = m := by
  unfold sameB
  rw [Bool.and_eq_true, beq_iff_eq, eqB_true]
set_option maxRecDepth 20000 in
set_option maxHeartbeats 2000000 in
theorem sameRow_any {A B : Option Addr} {n c m d : Nat} {l l' : List Int} {a b : Int} {w : World} (h1 : Ints w A n c l) (h2 : Ints w B m d l') :
    Calls Try.prog 16 #[.agg #[.slice A n c, .int .i64 a], .agg #[.slice B m d, .int .i64 b]] w fun e w' => e = .returned (.bool (sameB l l' a b)) ∧ Ext w w' := by
  have hx0 : Ext w ((w.alloc (.cells #[.slice A n c, .int .i64 a] 34)).alloc (.cells #[.slice B m d, .int .i64 b] 34)) := (Ext.alloc _ _).to_alloc _
  have HE := Lib.hid (equal_ext (h1.ext hx0) (h2.ext hx0))
  have HX := Lib.hid hx0
  clear h1 h2 hx0
  by_cases hab : a = b
  · subst hab
    have HR : Hid (sameB l l' a a = eqB l l') := Lib.hid (by unfold sameB; simp)
    have haa : (a == a) = true := by simp
    go_enter Try.func16, Try.ntmps16
    go_wp2_with fail
    refine HE.out.mono ?_
    rintro e w1 ⟨rfl, he⟩
    have HE2 := Lib.hid (HX.out.trans he)
    clear HE HX he
    go_wp2_with fail
    go_ret
    exact ⟨by rw [HR.out]; rfl, HE2.out⟩
  · have HR : Hid (sameB l l' a b = false) := Lib.hid (by unfold sameB; simp [hab])
    have haa : (a == b) = false := by simpa using hab
    clear hab
    go_enter Try.func16, Try.ntmps16
    go_wp2_with fail
    go_ret
    exact ⟨by rw [HR.out]; rfl, HX.out⟩

set_option maxRecDepth 100000 in
set_option maxHeartbeats 8000000 in
theorem paintFew_walk {l m : List Int} {A B : Option Addr} {n c q d : Nat} {a b : Int} {w : World} (hl : Ints w A n c l) (hA : A = none → c = 0) (hm : Ints w B q d m) (hB : B = none → d = 0) :
    Calls Try.prog 4 #[.agg #[.slice A n c, .int .i64 a], .agg #[.slice B q d, .int .i64 b]] w fun e w' => e = .returned (.bool true) ∧ Ext w w' := by
  have hx0 : Ext w ((w.alloc (.cells #[.slice A n c, .int .i64 a] 34)).alloc (.cells #[.slice B q d, .int .i64 b] 34)) := (Ext.alloc _ _).to_alloc _
  have b2 := (Blk.new w 34 #[.slice A n c, .int .i64 a]).ext (Ext.alloc _ (.cells #[.slice B q d, .int .i64 b] 34))
  have b3 := Blk.new (w.alloc (.cells #[.slice A n c, .int .i64 a] 34)) 34 #[.slice B q d, .int .i64 b]
  rw [World.size_alloc] at b3
  have hall := And.intro (Lib.hid hx0) (And.intro (Lib.hid b2) (And.intro (Lib.hid b3) (And.intro (Lib.hid (hl.ext hx0)) (Lib.hid (hm.ext hx0)))))
  have HAA := Lib.hid hA
  have HBB := Lib.hid hB
  have HLN := Lib.hid hl.len
  have HMN := Lib.hid hm.len
  have hqd := hm.ncap
  have hdm := hm.nmax
  unfold maxLen at hdm
  clear hx0 b2 b3 hl hm hA hB
  go_enter Try.func4, Try.ntmps4
  go_upto_region 1 with fail
  revert hall
  generalize (w.alloc (.cells #[.slice A n c, .int .i64 a] 34)).alloc (.cells #[.slice B q d, .int .i64 b] 34) = W
  obtain ⟨p2, hp2⟩ : ∃ p2, w.heap.size = p2 := ⟨_, rfl⟩
  obtain ⟨p3, hp3⟩ : ∃ p3, w.heap.size + 1 = p3 := ⟨_, rfl⟩
  rw [hp3, hp2]
  clear hp2 hp3
  rintro ⟨HX, b2, b3, HL, HM⟩
  go_wp2_with fail
  refine (row_made _ _ _ (by decide)).mono ?_
  rintro e w1 ⟨⟨A1, c1, rfl, ho1⟩, he1⟩
  go_wp2_with fail
  refine (row_made _ _ _ (by decide)).mono ?_
  rintro e w2 ⟨⟨A2, c2, rfl, ho2⟩, he2⟩
  have HS := Lib.hid (signs_ok (st := 6) (at_ := 0) (ho1.ints.ext he2) ho2.ints (own_cap ho2) (rowOk_lit (by decide) (by decide) (by decide) (by decide +kernel) (by decide +kernel)) (rowOk_lit (by decide) (by decide) (by decide) (by decide +kernel) (by decide +kernel)) rfl)
  rw [few_lit] at HS
  have HE2 := Lib.hid (he1.trans he2)
  clear ho1 ho2 he1 he2
  go_wp2_with fail
  refine HS.out.mono ?_
  rintro e w3 ⟨S3, q3, r3, rfl, ho3, he3⟩
  have HE3 := Lib.hid (HE2.out.trans he3)
  have HX4 := Lib.hid (Ext.alloc w3 (.cells #[.int .i64 13, .int .i64 11] 3))
  have HQ := Lib.hid (equal_ext (ho3.ints.ext HX4.out) (Ints.litAt w3 3 [13, 11] rfl rfl (Nat.le_of_ble_eq_true rfl)))
  rw [eqB_true.2 rfl] at HQ
  have HE4 := Lib.hid (HE3.out.trans HX4.out)
  clear HS ho3 he3 HE2 HE3 HX4
  go_wp2_with fail
  refine HQ.out.mono ?_
  rintro e w5 ⟨rfl, he5⟩
  have HE5 := Lib.hid (HE4.out.trans he5)
  clear HQ he5 HE4
  have HB2 := Lib.hid (b2.out.ext HE5.out)
  have HB3 := Lib.hid (b3.out.ext HE5.out)
  have HL5 := Lib.hid (HL.out.ext HE5.out)
  have HM5 := Lib.hid (HM.out.ext HE5.out)
  have HX5 := Lib.hid (HX.out.trans HE5.out)
  clear b2 b3 HL HM HX HE5
  obtain ⟨k20, k21⟩ := cells2J HB2.out
  obtain ⟨k30, k31⟩ := cells2J HB3.out
  by_cases hg : rowOk l n a ∧ rowOk m q b ∧ n = q
  · obtain ⟨g1, g2, rfl⟩ := hg
    obtain ⟨a0, rfl⟩ := nat_of g1.2.2.1
    obtain ⟨b0, rfl⟩ := nat_of g2.2.2.1
    have HSG := Lib.hid (signs_ok HL5.out HM5.out HBB.out g1 g2 rfl)
    have hb0 : b0 ≤ n := by have := g2.2.2.2.1; omega
    have hn120 : n ≤ 120 := g1.2.1
    have HLAW := Lib.hid (signs_law (a := l) (b := m) (st := a0) (at_ := b0) (by rw [HLN.out, HMN.out]) (by
      intro k hk
      rw [HMN.out] at hk
      exact g2.2.2.2.2 k hk) (by rw [HMN.out]; have := g1.2.2.2.1; omega) (by rw [HMN.out]; exact hb0)).2
    clear g1 g2
    rw [HMN.out] at HLAW
    have hful := (ful_spec m n).1
    have HFS : Hid (fulF m n = fulF m n) := Lib.hid rfl
    go_wp2_with fail
    refine HSG.out.mono ?_
    rintro e w6 ⟨S6, q6, r6, rfl, ho6, he6⟩
    have HQL : Hid ((signsF l a0 m b0).length = q6) := Lib.hid ho6.ints.len
    have hq6 := ho6.ints.ncap
    have hr6 := ho6.ints.nmax
    unfold maxLen at hr6
    have HB26 := Lib.hid (HB2.out.ext he6)
    have HB36 := Lib.hid (HB3.out.ext he6)
    have HL6 := Lib.hid (HL5.out.ext he6)
    have HM6 := Lib.hid (HM5.out.ext he6)
    have HX6 := Lib.hid (HX5.out.trans he6)
    clear HSG ho6 he6 k20 k21 k30 k31 HB2 HB3 HL5 HM5 HX5
    obtain ⟨k20, k21⟩ := cells2J HB26.out
    obtain ⟨k30, k31⟩ := cells2J HB36.out
    go_upto_block 0 with fail
    go_cut [9] (fun s9 wx => s9 = .int .i64 (fulF m n : Int) ∧ w6 = wx)
    case first =>
      go_wp2_with fail
      go_loopw [9] (fun v wr => ∃ k : Nat, k ≤ n ∧ v = .int .i64 k ∧ Hid (fulF m n = fulF m k) ∧ w6 = wr) (fun v _ => (intOf v).toNat)
      case atStart => exact ⟨n, Nat.le_refl _, rfl, Lib.hid rfl, rfl⟩
      case round =>
        obtain ⟨k, hk, rfl, HF, rfl⟩ := hrel
        rcases Nat.eq_zero_or_pos k with h0 | h0
        · subst h0
          have HF2 : Hid ((fulF m n : Int) = 0) := Lib.hid (by rw [HF.out]; rfl)
          clear HF
          go_wp2_with fail
          go_meet
          exact ⟨by rw [HF2.out]; rfl, rfl⟩
        · obtain ⟨k', rfl⟩ : ∃ k', k = k' + 1 := ⟨k - 1, by omega⟩
          obtain ⟨a1, e1, hc1⟩ := HM6.out.at_ (k := k') (by omega)
          have c1 := hc1 k' (by omega)
          have e2 : ((k' + 1 : Nat) : Int) - 1 = (k' : Int) := by omega
          have hk'n : k' < n := by omega
          subst e1
          by_cases hq : gI m k' = 32
          · have HF2 : Hid (fulF m n = fulF m k') := Lib.hid (by rw [HF.out]; simp [fulF, hq])
            rw [hq] at c1
            clear HF hc1 hq
            go_wp2_with fail
            go_roundw
            case rel => exact ⟨k', by omega, by first | rfl | (congr 1; omega), HF2, trivial⟩
            case measure => simp [intOf]
          · have HF2 : Hid (fulF m n = k' + 1) := Lib.hid (by rw [HF.out]; simp [fulF, hq])
            have b1 : (gI m k' == 32) = false := by simpa using hq
            clear HF hc1 hq
            go_wp2_with fail
            go_meet
            exact ⟨by rw [HF2.out], rfl⟩
    case rest =>
      obtain ⟨rfl, rfl⟩ := hcut
      have HSR := Lib.hid (sameRow_any (a := (a0 : Int)) (b := (b0 : Int)) HL6.out HM6.out)
      have hall := And.intro hful HLAW
      clear hful HLAW HFS
      revert hall
      generalize fulF m n = full
      rintro ⟨hful, HLAW⟩
      have HEQ : Hid ((decide ((q6 : Int) = 0) == sameB l m (a0 : Int) (b0 : Int)) = true) := Lib.hid (by
        rw [beq_iff_eq, Bool.eq_iff_iff, decide_eq_true_iff, sameB_true]
        have h1 := HLAW.out.2
        rw [← List.length_eq_zero_iff, HQL.out] at h1
        constructor
        · intro h
          obtain ⟨h2, h3⟩ := h1.1 (by omega)
          exact ⟨by rw [h3], h2⟩
        · intro ⟨h2, h3⟩
          have := h1.2 ⟨h3, by omega⟩
          omega)
      have hwn : q6 ≤ 2 + full + wayN full b0 := by have := HLAW.out.1; rw [HQL.out] at this; exact this
      clear HLAW HQL
      generalize sameB l m (a0 : Int) (b0 : Int) = sb at *
      by_cases hfb : full ≤ b0
      · have hq2 : q6 ≤ 2 + full + (b0 - full) := by unfold wayN at hwn; rw [if_pos hfb] at hwn; exact hwn
        obtain ⟨x, hx⟩ : ∃ x, x = b0 - full := ⟨_, rfl⟩
        rw [← hx] at hq2
        have hx1 : (b0 : Int) - (full : Int) = (x : Int) := by omega
        have hx2 : x ≤ 120 := by omega
        have hq3 : (q6 : Int) ≤ 2 + (full : Int) + (x : Int) := by omega
        clear hx hwn hfb
        go_wp2_with fail
        refine HSR.out.mono ?_
        rintro e w7 ⟨rfl, he7⟩
        go_wp2_with fail
        go_ret
        exact ⟨ret_bool (by first | exact HEQ.out | (simpa using HEQ.out)), HX6.out.trans he7⟩
      · have hq2 : q6 ≤ 2 + full + min (full - b0) (1 + b0) := by unfold wayN at hwn; rw [if_neg hfb] at hwn; exact hwn
        obtain ⟨x, hx⟩ : ∃ x, x = full - b0 := ⟨_, rfl⟩
        rw [← hx] at hq2
        have hx1 : (b0 : Int) - (full : Int) = -(x : Int) := by omega
        have hx2 : x ≤ 120 := by omega
        have hx3 : 0 < x := by omega
        have hx4 : -(x : Int) < 0 := by omega
        clear hx hwn hfb
        by_cases hxb : x ≤ 1 + b0
        · have hq3 : (q6 : Int) ≤ 2 + (full : Int) + (x : Int) := by omega
          have hq4 : ¬ 1 + (b0 : Int) < (x : Int) := by omega
          clear hq2 hxb
          go_wp2_with fail
          refine HSR.out.mono ?_
          rintro e w7 ⟨rfl, he7⟩
          go_wp2_with fail
          go_ret
          exact ⟨ret_bool (by first | exact HEQ.out | (simpa using HEQ.out)), HX6.out.trans he7⟩
        · have hq3 : (q6 : Int) ≤ 2 + (full : Int) + (1 + (b0 : Int)) := by omega
          have hq4 : 1 + (b0 : Int) < (x : Int) := by omega
          clear hq2 hxb
          go_wp2_with fail
          refine HSR.out.mono ?_
          rintro e w7 ⟨rfl, he7⟩
          go_wp2_with fail
          go_ret
          exact ⟨ret_bool (by first | exact HEQ.out | (simpa using HEQ.out)), HX6.out.trans he7⟩
  · have HSG := Lib.hid (signs_bad HL5.out HM5.out hg)
    clear hg
    go_wp2_with fail
    refine HSG.out.mono ?_
    rintro e w6 ⟨⟨z, hz, rfl⟩, he6⟩
    have hz1 : (z != 0) = true := by simpa using hz
    clear HSG hz
    go_wp2_with fail
    go_ret
    exact ⟨rfl, HX5.out.trans he6⟩
end Go.Proofs.Ythphlghblmindaa
