/-
  paint.diff, paint.way: the walks.
-/
import Derived.Test.YthphlghblmindaaPaiM
import Derived.Test.YthphlghblmindaaRep
import Derived.Test.YthphlghblmindaaClone
import Derived.Test.YthphlghblmindaaConc
import Derived.Deep.DeepCutAuto
import Derived.Deep.CutRange
import Derived.Deep.CutBlock
namespace Go.Proofs.Ythphlghblmindaa
open Go.RowKit
set_option linter.unusedVariables false
set_option linter.unusedSimpArgs false

theorem dUp_go {a b : List Int} {y k : Nat} (h : k < y) (e : gI a k = gI b k) : dUp a b y (y - k) k = dUp a b y (y - (k + 1)) (k + 1) := by
  obtain ⟨f, hf⟩ : ∃ f, y - k = f + 1 := ⟨y - k - 1, by omega⟩
  rw [hf, show y - (k + 1) = f by omega]
  simp [dUp, e]
theorem dUp_no {a b : List Int} {y k : Nat} (e : k < y → gI a k ≠ gI b k) : dUp a b y (y - k) k = k := by
  rcases Nat.lt_or_ge k y with h | h
  · obtain ⟨f, hf⟩ : ∃ f, y - k = f + 1 := ⟨y - k - 1, by omega⟩
    rw [hf]
    simp [dUp, e h]
  · rw [show y - k = 0 by omega]; rfl
theorem dDn_go {a b : List Int} {x j : Nat} (h : x < j) (e : gI a (j - 1) = gI b (j - 1)) : dDn a b x (j - x) j = dDn a b x (j - 1 - x) (j - 1) := by
  obtain ⟨f, hf⟩ : ∃ f, j - x = f + 1 := ⟨j - x - 1, by omega⟩
  rw [hf, show j - 1 - x = f by omega]
  simp [dDn, e]
theorem dDn_no {a b : List Int} {x j : Nat} (e : x < j → gI a (j - 1) ≠ gI b (j - 1)) : dDn a b x (j - x) j = j := by
  rcases Nat.lt_or_ge x j with h | h
  · obtain ⟨f, hf⟩ : ∃ f, j - x = f + 1 := ⟨j - x - 1, by omega⟩
    rw [hf]
    simp [dDn, e h]
  · rw [show j - x = 0 by omega]; rfl

/-- What diff answers, behind a name. -/
def DifIs (w : World) (k j : Nat) (e : Ending) (w' : World) : Prop := e = .returned (.tuple #[.int .i64 k, .int .i64 j, .bool (decide (k < j))]) ∧ ∃ z, w' = w.drewN z

set_option maxRecDepth 20000 in
set_option maxHeartbeats 4000000 in
theorem diff_ok {A B : Option Addr} {n m c d x y : Nat} {a b : List Int} {w : World} (ha : Ints w A n c a) (hb : Ints w B m d b) (hxy : x ≤ y) (hyn : y ≤ n) (hym : y ≤ m) :
    Calls Try.prog 43 #[.slice A n c, .slice B m d, .int .i64 x, .int .i64 y] w (DifIs w (difL a b x y) (difH a b x y)) := by
  have hnc := ha.ncap
  have hcm := ha.nmax
  have hmd := hb.ncap
  have hdm := hb.nmax
  unfold maxLen at hcm hdm
  go_enter Try.func43, Try.ntmps43
  go_upto_block 0 with fail
  go_cut [2] (fun s2 wx => ∃ k : Nat, x ≤ k ∧ k ≤ y ∧ s2 = .int .i64 k ∧ Hid (difL a b x y = k) ∧ ∃ z, wx = w.drewN z)
  case first =>
    go_wp2_with fail
    go_loopw [2] (fun v wr => ∃ k : Nat, x ≤ k ∧ k ≤ y ∧ v = .int .i64 k ∧ Hid (difL a b x y = dUp a b y (y - k) k) ∧ ∃ z, wr = w.drewN z) (fun v _ => y - (intOf v).toNat)
    case atStart => exact ⟨x, by omega, by omega, rfl, Lib.hid rfl, 0, rfl⟩
    case round =>
      obtain ⟨k, hxk, hky, rfl, HD, z, rfl⟩ := hrel
      by_cases hlt : k < y
      · obtain ⟨a1, rfl, hc1⟩ := ha.at_ (k := k) (by omega)
        obtain ⟨a2, rfl, hc2⟩ := hb.at_ (k := k) (by omega)
        have c1 := hc1 k (by omega)
        have c2 := hc2 k (by omega)
        have d1 : decide (k < y) = true := by simpa using hlt
        have d2 : decide ((k : Int) < (y : Int)) = true := by simp; omega
        have kn : k < n := by omega
        have km : k < m := by omega
        by_cases heq : gI a k = gI b k
        · have HN2 : Hid (difL a b x y = dUp a b y (y - (k + 1)) (k + 1)) := Lib.hid (by rw [HD.out, dUp_go hlt heq])
          have b1 : (gI a k == gI b k) = true := by simpa using heq
          clear hc1 hc2 HD heq
          go_wp2_with fail
          go_quiet (fail)
          go_wp2_with fail
          go_roundw
          case rel => exact ⟨k + 1, by omega, by omega, by go_num, HN2, z + nq, by first | exact drew2 _ _ _ | rfl⟩
          case measure => simp [intOf]; omega
        · have HN2 : Hid (difL a b x y = k) := Lib.hid (by rw [HD.out, dUp_no (fun _ => heq)])
          have b1 : (gI a k == gI b k) = false := by simpa using heq
          clear hc1 hc2 HD heq
          go_wp2_with fail
          go_quiet (fail)
          go_wp2_with fail
          go_meet
          exact ⟨k, hxk, hky, rfl, HN2, z + nq, by first | exact drew2 _ _ _ | rfl⟩
      · have d1 : decide (k < y) = false := by simpa using hlt
        have d2 : decide ((k : Int) < (y : Int)) = false := by simp; omega
        have HN2 : Hid (difL a b x y = k) := Lib.hid (by rw [HD.out, dUp_no (fun h => absurd h hlt)])
        clear HD
        go_wp2_with fail
        go_quiet (fail)
        go_wp2_with fail
        go_meet
        exact ⟨k, hxk, hky, rfl, HN2, z + nq, by first | exact drew2 _ _ _ | rfl⟩
  case rest =>
    obtain ⟨k, hxk, hky, rfl, HD, z, rfl⟩ := hcut
    go_upto_block 2 with fail
    go_cut [3] (fun s3 wx => ∃ j : Nat, k ≤ j ∧ j ≤ y ∧ s3 = .int .i64 j ∧ Hid (difH a b x y = j) ∧ ∃ z', wx = w.drewN z')
    case first =>
      go_wp2_with fail
      go_loopw [3] (fun v wr => ∃ j : Nat, k ≤ j ∧ j ≤ y ∧ v = .int .i64 j ∧ Hid (difH a b x y = dDn a b k (j - k) j) ∧ ∃ z', wr = w.drewN z') (fun v _ => (intOf v).toNat)
      case atStart => exact ⟨y, by omega, by omega, rfl, Lib.hid (by unfold difH; rw [HD.out]), z, rfl⟩
      case round =>
        obtain ⟨j, hkj, hjy, rfl, HJ, z', rfl⟩ := hrel
        by_cases hlt : k < j
        · obtain ⟨a1, rfl, hc1⟩ := ha.at_ (k := j - 1) (by omega)
          obtain ⟨a2, rfl, hc2⟩ := hb.at_ (k := j - 1) (by omega)
          have c1 := hc1 (j - 1) (by omega)
          have c2 := hc2 (j - 1) (by omega)
          have HST : Hid (gI a (j - 1) = gI b (j - 1) → difH a b x y = dDn a b k (j - 1 - k) (j - 1)) := Lib.hid (fun e => by rw [HJ.out, dDn_go hlt e])
          have HSN : Hid (gI a (j - 1) ≠ gI b (j - 1) → difH a b x y = j) := Lib.hid (fun e => by rw [HJ.out, dDn_no (fun _ => e)])
          obtain ⟨p, hp⟩ : ∃ p, p = j - 1 := ⟨_, rfl⟩
          rw [← hp] at c1 c2 HST HSN
          have hw1 : IntKind.i64.wrap ((j : Int) - 1) = (p : Int) := by rw [IntWalk.i64_in _ (by omega)]; omega
          have hpn : p < n := by omega
          have hpm : p < m := by omega
          have HP := Lib.hid hp
          have d1 : decide (k < j) = true := by simpa using hlt
          have d2 : decide ((k : Int) < (j : Int)) = true := by simp; omega
          have hkp : k ≤ p := by omega
          have hpy : p ≤ y := by omega
          have hpj : p < j := by omega
          clear hp
          by_cases heq : gI a p = gI b p
          · have HN2 := Lib.hid (HST.out heq)
            have b1 : (gI a p == gI b p) = true := by simpa using heq
            clear hc1 hc2 HST HSN HJ heq
            go_wp2_with fail
            go_quiet (fail)
            go_wp2_with fail
            go_roundw
            case rel => exact ⟨p, hkp, hpy, by have := HP.out; first | rfl | (congr 1; omega), HN2, z' + nq, by first | exact drew2 _ _ _ | rfl⟩
            case measure => have := HP.out; simp [intOf]; omega
          · have HN2 := Lib.hid (HSN.out heq)
            have b1 : (gI a p == gI b p) = false := by simpa using heq
            clear hc1 hc2 HST HSN HJ heq
            go_wp2_with fail
            go_quiet (fail)
            go_wp2_with fail
            go_meet
            exact ⟨j, hkj, hjy, rfl, HN2, z' + nq, by first | exact drew2 _ _ _ | rfl⟩
        · have d1 : decide (k < j) = false := by simpa using hlt
          have d2 : decide ((k : Int) < (j : Int)) = false := by simp; omega
          have HN2 : Hid (difH a b x y = j) := Lib.hid (by rw [HJ.out, dDn_no (fun h => absurd h hlt)])
          clear HJ
          go_wp2_with fail
          go_quiet (fail)
          go_wp2_with fail
          go_meet
          exact ⟨j, hkj, hjy, rfl, HN2, z' + nq, by first | exact drew2 _ _ _ | rfl⟩
    case rest =>
      obtain ⟨j, hkj, hjy, rfl, HJ, z', rfl⟩ := hcut
      go_wp2_with fail
      go_ret3
      rw [HD.out, HJ.out]
      exact ⟨by simp, z', rfl⟩

/-- What way answers. -/
def WayIs (w : World) (l : List Int) (e : Ending) (w' : World) : Prop := (∃ R q r, e = .returned (.slice R q r) ∧ Ints w' R q r l) ∧ Ext w w'
set_option maxRecDepth 20000 in
set_option maxHeartbeats 4000000 in
theorem way_ok {A : Option Addr} {n c x y : Nat} {b : List Int} {w : World} (hb : Ints w A n c b) (hA : A = none → c = 0) (hn : n ≤ 120) (hx : x ≤ n) (hy : y ≤ n) :
    Calls Try.prog 64 #[.slice A n c, .int .i64 x, .int .i64 y] w (WayIs w (wayL b x y)) := by
  obtain ⟨i0, hi, hz0, hz1, hz2⟩ := info_parts info_int
  have hnc := hb.ncap
  have hcm := hb.nmax
  unfold maxLen at hcm
  by_cases hxy : x ≤ y
  · have HW : Hid (wayL b x y = (b.drop x).take (y - x)) := Lib.hid (by unfold wayL; rw [if_pos hxy])
    have hcut := run_cutA A n c x y hxy (by omega)
    have HC := Lib.hid (clone_ok (hb.cutA hxy hy) (cutA_none hA) (by omega))
    clear hb hA
    go_enter Try.func64, Try.ntmps64
    go_wp2_with fail
    refine HC.out.mono ?_
    rintro e w1 ⟨R, r, rfl, ho, _, he⟩
    clear HC hcut
    go_wp2_with fail
    go_ret
    exact ⟨⟨R, _, r, rfl, by rw [HW.out]; exact ho.ints⟩, he⟩
  · by_cases hb2 : x - y ≤ 1 + y
    · have HW : Hid (wayL b x y = List.replicate (x - y) 8) := Lib.hid (by unfold wayL; rw [if_neg hxy, if_pos hb2])
      obtain ⟨q, hq⟩ : ∃ q, q = x - y := ⟨_, rfl⟩
      have hq1 : (x : Int) - (y : Int) = (q : Int) := by omega
      have hq2 : (q : Int) ≤ 1 + (y : Int) := by omega
      have hq3 : q ≤ 1000000 := by omega
      have hx0 := Lib.hid (Ext.alloc w (.cells #[.int .i64 8] 3))
      have HC := Lib.hid (repeat_ok (n := q) (Ints.litAt w 3 [8] rfl rfl (by omega)) hq3)
      rw [← hq] at HW
      have hxy2 : y < x := by omega
      clear hb hA hq hb2
      go_enter Try.func64, Try.ntmps64
      go_wp2_with fail
      refine HC.out.mono ?_
      rintro e w1 ⟨⟨g, rfl, ho⟩, he⟩
      clear HC
      go_wp2_with fail
      go_ret
      exact ⟨⟨_, _, _, rfl, by rw [HW.out]; exact ho.ints⟩, hx0.out.trans he⟩
    · have HW : Hid (wayL b x y = 13 :: b.take y) := Lib.hid (by unfold wayL; rw [if_neg hxy, if_neg hb2])
      obtain ⟨q, hq⟩ : ∃ q, q = x - y := ⟨_, rfl⟩
      have hq1 : (x : Int) - (y : Int) = (q : Int) := by omega
      have hq2 : 1 + (y : Int) < (q : Int) := by omega
      have hxy2 : y < x := by omega
      have hown0 : Own (w.alloc (.cells #[.int .i64 13] 3)) w.heap.size 3 1 (some ⟨w.heap.size, 0, none⟩) 1 1 [.int .i64 13] :=
        ⟨rfl, .inr ⟨w.heap.size, 1, #[.int .i64 13], rfl, Nat.le_refl _, heap_alloc_new w _, Nat.le_refl _, by unfold maxLen; omega, rfl, rfl⟩⟩
      have hx0 := Ext.alloc w (.cells #[.int .i64 13] 3)
      have hfr := (hb.front (k := y) hy).ext hx0
      have HFR := Lib.hid hfr
      clear hq hb2 hb hA hfr
      go_enter Try.func64, Try.ntmps64
      go_wp2_with (at_builtin; refine wpList_app rfl _ _ 22 rfl w w.heap.size 3 i0 (.int .i64 0) 1 8 Try.underlying22 hi hz0 hz1 hz2 rfl (by decide) (some ⟨w.heap.size, 0, none⟩) 1 1 _ rfl hown0 A y c _ rfl HFR.out HFR.out.one ?_ ?_ hx0 (Nat.le_refl _) hx0.hsize ?_)
      · unfold maxLen; omega
      · omega
      · intro A2 c2 w2 k1 k2 k3 k4
        have h1 : OwnI w2 w.heap.size A2 (1 + y) c2 (13 :: b.take y) := by simpa [OwnI] using k1
        have HO := Lib.hid h1
        clear k1 k2 k3 h1 hown0 hx0
        go_wp2_with fail
        go_ret
        exact ⟨⟨_, _, _, rfl, by rw [HW.out]; exact HO.out.ints⟩, k4⟩
end Go.Proofs.Ythphlghblmindaa
