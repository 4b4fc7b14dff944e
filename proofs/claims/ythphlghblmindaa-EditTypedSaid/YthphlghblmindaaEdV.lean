/-
  The walk of EditTyped.
-/
import Derived.Test.YthphlghblmindaaEdU
import Derived.Test.YthphlghblmindaaEq
import Derived.Deep.RegionHeld3
namespace Go.Proofs.Ythphlghblmindaa
open Go.RowKit
set_option linter.unusedVariables false
set_option linter.unusedSimpArgs false

/-- SameLine of one and the same line. -/
theorem sameLine_ok {A B : Option Addr} {n c m d : Nat} {l : List Int} {a : Int} {w : World} (h1 : Ints w A n c l) (h2 : Ints w B m d l) :
    Calls Try.prog 37 #[.agg #[.slice A n c, .int .i64 a], .agg #[.slice B m d, .int .i64 a]] w fun e w' => e = .returned (.bool true) ∧ Ext w w' := by
  have hx0 : Ext w ((w.alloc (.cells #[.slice A n c, .int .i64 a] 62)).alloc (.cells #[.slice B m d, .int .i64 a] 62)) := (Ext.alloc _ _).to_alloc _
  have HE := Lib.hid (equal_ext (h1.ext hx0) (h2.ext hx0))
  have HX := Lib.hid hx0
  have hq : eqB l l = true := eqB_true.2 rfl
  rw [hq] at HE
  have haa : (a == a) = true := by simp
  clear h1 h2 hx0 hq
  go_enter Try.func37, Try.ntmps37
  go_wp2_with fail
  refine HE.out.mono ?_
  rintro e w1 ⟨rfl, he⟩
  have HE2 := Lib.hid (HX.out.trans he)
  clear HE HX he
  go_wp2_with fail
  go_ret
  exact ⟨rfl, HE2.out⟩

theorem newAtE {w : World} {g t : Nat} {cs : Array Value} (h : g = w.heap.size) : Blk (w.alloc (.cells cs t)) g t cs := by subst h; exact Blk.new _ _ _
theorem lit_goodE : ∀ k, k < 2 → goodC (gI (chars ⟨#[98, 99]⟩) k) := by
  intro k hk
  have : k = 0 ∨ k = 1 := by omega
  rcases this with rfl | rfl <;> exact ⟨by decide, by decide⟩
theorem lit_typed : (chars ⟨#[97, 100]⟩).take 1 ++ chars ⟨#[98, 99]⟩ ++ (chars ⟨#[97, 100]⟩).drop 1 = chars ⟨#[97, 98, 99, 100]⟩ := by decide +kernel

set_option maxRecDepth 100000 in
set_option maxHeartbeats 8000000 in
theorem editTyped_walk {l t : List Int} {A B : Option Addr} {n c m d : Nat} {a : Int} {w : World} (hl : Ints w A n c l) (hA : A = none → c = 0) (ht : Ints w B m d t) (hB : B = none → d = 0) (hzn : n * 8 ≤ 140737488351232) (hzm : m * 8 ≤ 140737488351232) :
    Calls Try.prog 7 #[.agg #[.slice A n c, .int .i64 a], .slice B m d] w fun e w' => e = .returned (.bool true) ∧ Ext w w' := by
  have hln := hl.len
  have hmn := ht.len
  have HLN := Lib.hid hln
  have HMN := Lib.hid hmn
  have hnc := hl.ncap
  have hcm := hl.nmax
  have hmd := ht.ncap
  have hdm := ht.nmax
  unfold maxLen at hcm hdm
  have hx0 := Ext.alloc w (.cells #[.slice A n c, .int .i64 a] 62)
  have hb2 := Blk.new w 62 #[.slice A n c, .int .i64 a]
  have HAA := Lib.hid hA
  have HBB := Lib.hid hB
  have hall := And.intro (Lib.hid hx0) (And.intro (Lib.hid hb2) (And.intro (Lib.hid (hl.ext hx0)) (Lib.hid (ht.ext hx0))))
  clear hx0 hb2 hl ht hA hB hln hmn
  go_enter Try.func7, Try.ntmps7
  go_upto_region 1 with fail
  revert hall
  generalize w.alloc (.cells #[.slice A n c, .int .i64 a] 62) = W
  obtain ⟨p2, hp2⟩ : ∃ p2, w.heap.size = p2 := ⟨_, rfl⟩
  rw [hp2]
  clear hp2
  rintro ⟨HX, HB2, HL, HM⟩
  go_wp2_with fail
  refine (of_ok _ _ (by decide)).mono ?_
  rintro e w1 ⟨A1, c1, rfl, ho1, he1⟩
  go_wp2_with fail
  refine (of_ok _ _ (by decide)).mono ?_
  rintro e w2 ⟨A2, c2, rfl, ho2, he2⟩
  have HT := Lib.hid (typed_in (a := 1) (ho1.ints.ext he2) (own_capE ho1) ho2.ints (by decide) lit_goodE (by decide))
  rw [lit_typed] at HT
  have HE2 := Lib.hid (he1.trans he2)
  clear ho1 ho2 he1 he2
  go_wp2_with fail
  refine HT.out.mono ?_
  rintro e w3 ⟨he3, A3, q3, d3, rfl, hi3, hn3, _⟩
  have HX4 := Lib.hid (HE2.out.trans (he3.trans (Ext.alloc w3 (.cells #[.slice A3 q3 d3, .int .i64 3] 62))))
  have HB5 := Lib.hid (Blk.new w3 62 #[.slice A3 q3 d3, .int .i64 3])
  have HI5 := Lib.hid (hi3.ext (Ext.alloc w3 (.cells #[.slice A3 q3 d3, .int .i64 3] 62)))
  clear HT he3 hi3 hn3 HE2
  go_upto_region 2 with fail
  revert HX4 HB5 HI5
  generalize w3.alloc (.cells #[.slice A3 q3 d3, .int .i64 ((1 + 2 : Nat) : Int)] 62) = w4
  generalize w3.heap.size = p5
  intro HX4 HB5 HI5
  obtain ⟨k50, k51⟩ := cells2 HB5.out
  have hxd := Ext.drew w4
  have K5 : Hid (∀ wq, Ext w4 wq → wq.cell? ⟨p5, 0, none⟩ = some (.slice A3 q3 d3) ∧ wq.cell? ⟨p5, 1, none⟩ = some (.int .i64 3)) := Lib.hid fun wq h => ⟨h.cell k50, h.cell k51⟩
  have hz : eqB (chars ⟨#[97, 98, 99, 100]⟩) (chars ⟨#[97, 98, 99, 100]⟩) = true := eqB_true.2 rfl
  go_region_held3 (fun w' => w'.cell? ⟨p5, 0, none⟩ = some (.slice A3 q3 d3) ∧ w'.cell? ⟨p5, 1, none⟩ = some (.int .i64 3)) (first | assumption | exact ⟨k50, k51⟩ | exact K5.out _ (by assumption)) (first
    | (go_at_call 28
       refine (of_ok _ _ (by decide)).mono ?_
       rintro e w6 ⟨A6, c6, rfl, ho6, he6⟩
       have hx6 := hxd.trans he6)
    | (go_at_call 13
       refine (equal_ext (HI5.out.ext hx6) ho6.ints).mono ?_
       rintro e w7 ⟨rfl, he7⟩
       have hx7 := hx6.trans he7))
  have HX7 := Lib.hid (HX4.out.trans hx7)
  have HB7 := Lib.hid (HB2.out.ext HX7.out)
  have HL7 := Lib.hid (HL.out.ext HX7.out)
  have HM7 := Lib.hid (HM.out.ext HX7.out)
  have HXX := Lib.hid (HX.out.trans HX7.out)
  clear HX4 HB5 HI5 k50 k51 hxd K5 hz ho6 he6 hx6 he7 hx7 HX HB2 HL HM HX7
  obtain ⟨k20, k21⟩ := cells2 HB7.out
  by_cases ha0 : a < 0
  · go_wp2_with fail
    go_ret
    exact ⟨rfl, HXX.out⟩
  obtain ⟨a0, rfl⟩ : ∃ a0 : Nat, a = a0 := ⟨a.toNat, by omega⟩
  by_cases han : n < a0
  · go_wp2_with fail
    go_ret
    exact ⟨rfl, HXX.out⟩
  have han' : a0 ≤ n := by omega
  clear han ha0
  by_cases hm0 : m = 0
  · subst hm0
    go_wp2_with fail
    go_ret
    exact ⟨rfl, HXX.out⟩
  have hm1 : 0 < m := by omega
  have hm2 : ((m : Int) == 0) = false := by simp; omega
  clear hm0
  by_cases hg : ∀ k, k < m → goodC (gI t k)
  · have HC := Lib.hid (Econtf_ok HM7.out hg)
    have HG := Lib.hid hg
    clear hg
    go_wp2_with fail
    refine HC.out.mono ?_
    rintro e w8 ⟨rfl, rfl⟩
    clear HC
    by_cases hr : n + m ≤ 200
    · have HTI := Lib.hid (typed_in HL7.out HAA.out HM7.out han' HG.out hr)
      obtain ⟨s, hs⟩ : ∃ s, a0 + m = s := ⟨_, rfl⟩
      rw [hs] at HTI
      have hs1 : (a0 : Int) + (m : Int) = (s : Int) := by omega
      have HS := Lib.hid hs
      clear hs
      go_wp2_with fail
      refine HTI.out.mono ?_
      rintro e w9 ⟨he9, A9, q9, d9, rfl, hi9, hn9, _⟩
      have hx9 := he9.trans (Ext.alloc w9 (.cells #[.slice A9 q9 d9, .int .i64 (s : Int)] 62))
      have HB9 := Lib.hid (Blk.new w9 62 #[.slice A9 q9 d9, .int .i64 (s : Int)])
      have HI9 := Lib.hid (hi9.ext (Ext.alloc w9 (.cells #[.slice A9 q9 d9, .int .i64 (s : Int)] 62)))
      have HN9 := Lib.hid hn9
      have HB2 := Lib.hid (HB7.out.ext hx9)
      have HL := Lib.hid (HL7.out.ext hx9)
      have HM := Lib.hid (HM7.out.ext hx9)
      have HXY := Lib.hid (HXX.out.trans hx9)
      clear HTI he9 hi9 hn9 hx9 HB7 HL7 HM7 HXX k20 k21
      go_upto_region 9 with fail
      revert HB9 HI9 HB2 HL HM HXY
      generalize w9.alloc (.cells #[.slice A9 q9 d9, .int .i64 (s : Int)] 62) = V
      generalize w9.heap.size = p7
      intro HB9 HI9 HB2 HL HM HXY
      obtain ⟨k20, k21⟩ := cells2 HB2.out
      obtain ⟨k70, k71⟩ := cells2 HB9.out
      have hac : a0 ≤ c := by omega
      have hcut := run_tailA A n c a0 han'
      have hxd := Ext.drew V
      have KS : Hid (∀ wq, Ext V wq → (wq.cell? ⟨p2, 0, none⟩ = some (.slice A n c) ∧ wq.cell? ⟨p2, 1, none⟩ = some (.int .i64 (a0 : Int))) ∧ (wq.cell? ⟨p7, 0, none⟩ = some (.slice A9 q9 d9) ∧ wq.cell? ⟨p7, 1, none⟩ = some (.int .i64 (s : Int)))) := Lib.hid fun wq h => ⟨⟨h.cell k20, h.cell k21⟩, ⟨h.cell k70, h.cell k71⟩⟩
      have HCO : Hid (∀ (wq : World) (S : Option Addr), Ext V wq → Rd wq 1 S 3 3 [.slice A a0 c, .slice B m d, .slice (cutA A c a0) (n - a0) (c - a0)] → Calls Try.prog 32 #[.slice S 3 3] wq fun e w' => ∃ B n d, e = .returned (.slice B n d) ∧ OwnI w' wq.heap.size B n d (l.take a0 ++ t ++ l.drop a0) ∧ Ext wq w') := Lib.hid fun wq S he hS => by
        have hl := HL.out.ext he
        have hh : (l.drop a0).take (n - a0) = l.drop a0 := List.take_of_length_le (by rw [List.length_drop, HLN.out]; exact Nat.le_refl _)
        have h1 := concat_ok hS (Lists.three (hl.front han') (HM.out.ext he) (hl.cutA han' (Nat.le_refl n))) rfl (by
          rw [hh]
          simp
          rw [HLN.out, HMN.out]
          omega)
        rw [hh] at h1
        have e3 : ([l.take a0, t, l.drop a0] : List (List Int)).flatten = l.take a0 ++ t ++ l.drop a0 := by simp
        rw [e3] at h1
        exact h1
      have hws : IntKind.i64.wrap ((a0 : Int) + (m : Int)) = (s : Int) := by rw [IntWalk.i64_in _ (by omega)]; exact hs1
      have hws2 : IntKind.i64.wrap (s : Int) = (s : Int) := IntWalk.i64_in _ (by omega)
      clear hs1
      have hgen := And.intro hcut HCO
      clear hcut HCO
      revert hgen
      generalize cutA A c a0 = D
      obtain ⟨nn, hnn⟩ : ∃ nn, n - a0 = nn := ⟨_, rfl⟩
      obtain ⟨cc, hcc⟩ : ∃ cc, c - a0 = cc := ⟨_, rfl⟩
      rw [hnn, hcc]
      clear hnn hcc
      rintro ⟨hcut, HCO⟩
      go_region_held3 (fun w' => (w'.cell? ⟨p2, 0, none⟩ = some (.slice A n c) ∧ w'.cell? ⟨p2, 1, none⟩ = some (.int .i64 (a0 : Int))) ∧ (w'.cell? ⟨p7, 0, none⟩ = some (.slice A9 q9 d9) ∧ w'.cell? ⟨p7, 1, none⟩ = some (.int .i64 (s : Int)))) (first | assumption | exact KS.out _ hxd | exact KS.out _ (by assumption) | exact KS.out _ ((Ext.alloc _ _).to_drew) | exact KS.out _ (hxd.to_alloc _) | exact KS.out _ (Ext.alloc _ _)) (first
        | (go_at_call 32
           refine (HCO.out _ _ (by first | exact (Ext.alloc _ _).to_drew | exact hxd.to_alloc _) (by first | exact Rd.ext (Rd.litAt _ _ [.slice A a0 c, .slice B m d, .slice D nn cc] (by first | rfl | simp) rfl (Nat.le_of_ble_eq_true rfl)) (Ext.drew _) | exact Rd.litAt _ _ [.slice A a0 c, .slice B m d, .slice D nn cc] (by first | rfl | simp) rfl (Nat.le_of_ble_eq_true rfl))).mono ?_
           rintro e wb ⟨Cb, qb, db, rfl, hob, heb⟩
           have hxb : Ext V wb := by first | exact ((Ext.alloc _ _).to_drew).trans heb | exact (hxd.to_alloc _).trans heb)
        | (go_at_call 13
           refine (equal_ext (HI9.out.ext hxb) hob.ints).mono ?_
           rw [eqB_true.2 rfl]
           rintro e wc ⟨rfl, hec⟩
           have hxc := hxb.trans hec))
      have HB9c := Lib.hid (HB9.out.ext hxc)
      have HI9c := Lib.hid (HI9.out.ext hxc)
      have HB2c := Lib.hid (HB2.out.ext hxc)
      have HLc := Lib.hid (HL.out.ext hxc)
      have HXc := Lib.hid (HXY.out.trans hxc)
      clear HB9 HI9 HB2 HL HM HXY k20 k21 k70 k71 KS HCO hcut hxd hob heb hxb hec hxc
      obtain ⟨k20, k21⟩ := cells2 HB2c.out
      obtain ⟨k70, k71⟩ := cells2 HB9c.out
      have hms : m ≤ 200 := by omega
      go_upto_region 11 with fail
      go_cut [9, 8] (fun s9 s8 wx => ∃ g A8 q8 d8, s9 = .pointer (some ⟨g, 0, none⟩) ∧ s8 = .bool true ∧ Hid (Blk wx g 62 #[.slice A8 q8 d8, .int .i64 (a0 : Int)]) ∧ Hid (Ints wx A8 q8 d8 l) ∧ Hid (Ext wc wx))
      case first =>
        have KS : Hid (∀ wq, Ext wc wq → wq.cell? ⟨p7, 0, none⟩ = some (.slice A9 q9 d9) ∧ wq.cell? ⟨p7, 1, none⟩ = some (.int .i64 (s : Int))) := Lib.hid fun wq h => ⟨h.cell k70, h.cell k71⟩
        have hxd := Ext.drew wc
        have HTB : Hid (∀ (wq : World) (K : Option Addr) (dk : Nat), Ext wc wq → Ints wq K m dk (List.replicate m 8) → Calls Try.prog 33 #[.agg #[.slice A9 q9 d9, .int .i64 (s : Int)], .slice K m dk] wq (TypedIs wq m l a0)) := Lib.hid fun wq K dk he hk => by
          have hq := (HI9c.out).len
          have h1 := typed_back (HI9c.out.ext he) HN9.out hk HMN.out (by rw [HLN.out]; exact han') (by
            simp only [List.length_append, List.length_take, List.length_drop] at hq
            rw [HLN.out, HMN.out] at hq
            omega)
          rw [HS.out] at h1
          exact h1
        go_region_held3 (fun w' => w'.cell? ⟨p7, 0, none⟩ = some (.slice A9 q9 d9) ∧ w'.cell? ⟨p7, 1, none⟩ = some (.int .i64 (s : Int))) (first | assumption | (refine KS.out _ ?_; ((repeat (first | assumption | exact Ext.refl _ | refine Ext.to_alloc ?_ _ | refine Ext.to_drew ?_ | refine Ext.setCell ?_ ?_ _)) <;> ((try simp only [World.size_alloc, drewT_size]); omega)))) (first
          | (go_at_call 36
             refine (repeat_ok (x := 8) (n := m) (by first | exact Ints.ext (Ints.litAt _ 3 [8] (by first | rfl | simp) rfl (Nat.le_of_ble_eq_true rfl)) (Ext.drew _) | exact Ints.litAt _ 3 [8] (by first | rfl | simp) rfl (Nat.le_of_ble_eq_true rfl) | exact Ints.ext (Ints.ext (Ints.litAt _ 3 [8] (by first | rfl | simp) rfl (Nat.le_of_ble_eq_true rfl)) (Ext.alloc _ _)) (Ext.drew _) | exact Ints.ext (Ints.litAt _ 3 [8] (by first | rfl | simp) rfl (Nat.le_of_ble_eq_true rfl)) (Ext.alloc _ _)) (by omega)).mono ?_
             rintro e wd ⟨⟨gd, rfl, hod⟩, hed⟩
             have hxwd : Ext wc wd := by first | exact ((Ext.alloc _ _).to_drew).trans hed | exact (hxd.to_alloc _).trans hed | exact (((Ext.alloc _ _).to_alloc _).to_drew).trans hed | exact ((hxd.to_alloc _).to_alloc _).trans hed
             have hsz1 := hxwd.hsize
             try (have hZ0 : Blk wd wc.heap.size 62 #[.slice none 0 0, .int .i64 0] := (((Blk.new wc _ _).ext (Ext.alloc _ _)).ext (Ext.drew _)).ext hed)
             try (have hZ0 : Blk wd (wc.heap.size + 1) 62 #[.slice none 0 0, .int .i64 0] := (show Blk (((wc.alloc (.cells #[.int .i64 8] 3)).alloc (.cells #[.slice none 0 0, .int .i64 0] 62)).drew) (wc.heap.size + 1) 62 #[.slice none 0 0, .int .i64 0] from (newAtE (by simp)).ext (Ext.drew _)).ext hed))
          | (go_at_call 33
             refine (HTB.out _ _ _ (by first | exact hxwd | exact hxwd.to_alloc _) (by first | exact hod.ints | exact hod.ints.ext (Ext.alloc _ _))).mono ?_
             rintro e we ⟨hee, A8, q8, d8, rfl, hi8, hn8, ho8⟩
             have ho8 := ho8 hm1
             have hxwe : Ext wc we := by first | exact hxwd.trans hee | exact (hxwd.to_alloc _).trans hee
             have hsz2 := hxwe.hsize
             try (have hZ1 := Blk.ext hZ0 hee; obtain ⟨z0, z1⟩ := cells2 hZ1; obtain ⟨y0, y1⟩ := frozen2 hZ1)
             try (have hZ1 := Blk.ext (Blk.new wd 62 #[.slice none 0 0, .int .i64 0]) hee; obtain ⟨z0, z1⟩ := cells2 hZ1; obtain ⟨y0, y1⟩ := frozen2 hZ1)))
        all_goals
          first
          | (have hF : Hid (Blk (st2 we (wc.heap.size) (.slice A8 q8 d8) (.int .i64 (a0 : Int))) (wc.heap.size) 62 #[.slice A8 q8 d8, .int .i64 (a0 : Int)] ∧ Ints (st2 we (wc.heap.size) (.slice A8 q8 d8) (.int .i64 (a0 : Int))) A8 q8 d8 l ∧ Ext wc (st2 we (wc.heap.size) (.slice A8 q8 d8) (.int .i64 (a0 : Int)))) := Lib.hid ⟨st2_blk hZ1 _ _, OwnI.ints (st2_own ho8 hZ0.lt _ _), st2_ext hxwe (by (try simp only [World.size_alloc, drewT_size]); omega) _ _⟩
             unfold st2 at hF
             clear hZ0 hZ1 z0 z1 y0 y1 ho8 hi8 hn8 hee hxwe hod hed hxwd hsz1 hsz2
             go_wp2_with fail
             go_meet
             exact ⟨_, A8, q8, d8, rfl, rfl, Lib.hid hF.out.1, Lib.hid hF.out.2.1, Lib.hid hF.out.2.2⟩)
          | (have hF : Hid (Blk (st2 we (wc.heap.size + 1) (.slice A8 q8 d8) (.int .i64 (a0 : Int))) (wc.heap.size + 1) 62 #[.slice A8 q8 d8, .int .i64 (a0 : Int)] ∧ Ints (st2 we (wc.heap.size + 1) (.slice A8 q8 d8) (.int .i64 (a0 : Int))) A8 q8 d8 l ∧ Ext wc (st2 we (wc.heap.size + 1) (.slice A8 q8 d8) (.int .i64 (a0 : Int)))) := Lib.hid ⟨st2_blk hZ1 _ _, OwnI.ints (st2_own ho8 hZ0.lt _ _), st2_ext hxwe (by (try simp only [World.size_alloc, drewT_size]); omega) _ _⟩
             unfold st2 at hF
             clear hZ0 hZ1 z0 z1 y0 y1 ho8 hi8 hn8 hee hxwe hod hed hxwd hsz1 hsz2
             go_wp2_with fail
             go_meet
             exact ⟨_, A8, q8, d8, rfl, rfl, Lib.hid hF.out.1, Lib.hid hF.out.2.1, Lib.hid hF.out.2.2⟩)
          | (have hF : Hid (Blk (st2 we wd.heap.size (.slice A8 q8 d8) (.int .i64 (a0 : Int))) wd.heap.size 62 #[.slice A8 q8 d8, .int .i64 (a0 : Int)] ∧ Ints (st2 we wd.heap.size (.slice A8 q8 d8) (.int .i64 (a0 : Int))) A8 q8 d8 l ∧ Ext wc (st2 we wd.heap.size (.slice A8 q8 d8) (.int .i64 (a0 : Int)))) := Lib.hid ⟨st2_blk hZ1 _ _, OwnI.ints (st2_own ho8 (by (try simp only [World.size_alloc, drewT_size] at *); omega) _ _), st2_ext hxwe (by (try simp only [World.size_alloc, drewT_size]); omega) _ _⟩
             unfold st2 at hF
             clear hZ1 z0 z1 y0 y1 ho8 hi8 hn8 hee hxwe hod hed hxwd hsz1 hsz2
             go_wp2_with fail
             go_meet
             exact ⟨_, A8, q8, d8, rfl, rfl, Lib.hid hF.out.1, Lib.hid hF.out.2.1, Lib.hid hF.out.2.2⟩)
          | (have hF : Hid (Blk (st2 (we.alloc (.cells #[.slice none 0 0, .int .i64 0] 62)) we.heap.size (.slice A8 q8 d8) (.int .i64 (a0 : Int))) we.heap.size 62 #[.slice A8 q8 d8, .int .i64 (a0 : Int)] ∧ Ints (st2 (we.alloc (.cells #[.slice none 0 0, .int .i64 0] 62)) we.heap.size (.slice A8 q8 d8) (.int .i64 (a0 : Int))) A8 q8 d8 l ∧ Ext wc (st2 (we.alloc (.cells #[.slice none 0 0, .int .i64 0] 62)) we.heap.size (.slice A8 q8 d8) (.int .i64 (a0 : Int)))) := Lib.hid ⟨st2_blk (Blk.new we _ _) _ _, OwnI.ints (st2_own_ne (OwnI.ext ho8 (Ext.alloc _ _)) (fun k hk => by have := (Own.blk ho8 k hk).2; omega) _ _), st2_ext (hxwe.to_alloc _) (by omega) _ _⟩
             unfold st2 at hF
             clear ho8 hi8 hn8 hee hxwe hod hed hxwd hsz1 hsz2
             try simp only [World.setCell_alloc_new] at hF
             go_wp2_with fail
             go_meet
             exact ⟨_, A8, q8, d8, rfl, rfl, Lib.hid hF.out.1, Lib.hid hF.out.2.1, Lib.hid hF.out.2.2⟩)
      case rest =>
        obtain ⟨g, A8, q8, d8, rfl, rfl, HB8, HI8, HX8⟩ := hcut
        rename World => wf
        obtain ⟨k80, k81⟩ := cells2 HB8.out
        obtain ⟨k20, k21⟩ := cells2 (HB2c.out.ext HX8.out)
        have HSL := Lib.hid (sameLine_ok (a := (a0 : Int)) HI8.out (HLc.out.ext HX8.out))
        clear k70 k71
        go_wp2_with fail
        refine HSL.out.mono ?_
        rintro e wg ⟨rfl, heg⟩
        go_wp2_with fail
        go_ret
        exact ⟨rfl, HXc.out.trans (HX8.out.trans heg)⟩
    · have HTI := Lib.hid (typed_over HL7.out HAA.out HM7.out han' HG.out (by omega) hm1)
      have hr2 : (200 : Int) < (n : Int) + (m : Int) := by omega
      have hr3 : decide ((200 : Int) < (n : Int) + (m : Int)) = true := by simpa using hr2
      go_wp2_with fail
      refine HTI.out.mono ?_
      rintro e w9 ⟨he9, rfl⟩
      have HB2 := Lib.hid (HB7.out.ext (he9.trans (Ext.alloc w9 (.cells #[.slice none 0 0, .int .i64 0] 62))))
      obtain ⟨k20, k21⟩ := cells2 HB2.out
      go_wp2_with fail
      go_ret
      exact ⟨by first | rfl | simp, HXX.out.trans (he9.to_alloc _)⟩
  · have HC := Lib.hid (Econtf_bad HM7.out hg)
    clear hg
    go_wp2_with fail
    refine HC.out.mono ?_
    rintro e w8 ⟨rfl, rfl⟩
    clear HC
    go_wp2_with fail
    go_ret
    exact ⟨rfl, HXX.out⟩
end Go.Proofs.Ythphlghblmindaa
