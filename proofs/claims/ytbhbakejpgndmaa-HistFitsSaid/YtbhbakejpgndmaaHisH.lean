/-
  The walk of HistFits.
-/
import Derived.Test.YtbhbakejpgndmaaHisI
namespace Go.Proofs.Ytbhbakejpgndmaa
open Go.RowKit
set_option linter.unusedVariables false
set_option linter.unusedSimpArgs false

theorem LnV.single {w : World} {u : Value} {l : List Int} (h : RegSl w u l) : LnV w [u] [l] :=
  ⟨rfl, fun i hi => by
    have hi' : i < 1 := hi
    obtain rfl : i = 0 := by omega
    exact ⟨u, rfl, h⟩⟩

set_option maxRecDepth 20000 in
set_option maxHeartbeats 4000000 in
theorem fits1_ok {w : World} {g4 g12 : Nat} {A T : Option Addr} {n c t z j : Nat} {ls : List (List Int)} {pat : List Int} (h1 : w.cell? ⟨g4, 0, none⟩ = some (.slice A n c)) (hL : Lns w A n c ls) (hj : j < n) (hjl : (gL ls j).length ≤ 200)
    (h2 : w.cell? ⟨g12, 4, none⟩ = some (.slice T t z)) (hp : Ints w T t z pat) (hp0 : T = none → z = 0) (hp2 : pat.length ≤ 200) (hp3 : pat ≠ []) :
    Calls Try.prog 36 #[.int .i64 (j : Int), .pointer (some ⟨g4, 0, none⟩), .pointer (some ⟨g12, 0, none⟩)] w fun e w' => e = .returned (.bool (fitsB pat (gL ls j))) ∧ Ext w w' := by
  have hnm := Nat.le_trans hL.ncap hL.nmax
  unfold maxLen at hnm
  have hg4 : g4 < w.heap.size := World.block_lt_of_cell? w _ h1
  have hg12 : g12 < w.heap.size := World.block_lt_of_cell? w _ h2
  obtain ⟨ad, v, rfl, hc, B7, m7, c7, rfl, hI7⟩ := hL.at_ hj
  have hv : RegSl w (.slice B7 m7 c7) (gL ls j) := ⟨B7, m7, c7, rfl, hI7⟩
  clear hI7
  have hS0 : Rd (w.alloc (.cells #[.slice B7 m7 c7] 22)) 1 (some ⟨w.heap.size, 0, none⟩) 1 1 [.slice B7 m7 c7] := Rd.litAt w 22 [.slice B7 m7 c7] rfl rfl (by omega)
  have hE0 := Ext.alloc w (.cells #[.slice B7 m7 c7] 22)
  have hfin := Lib.hid (Blk.new (w.alloc (.cells #[.slice B7 m7 c7] 22)) 55 #[.slice (some ⟨w.heap.size, 0, none⟩) 1 1, .int .i64 1, .int .i64 1, .slice none 0 0, .slice none 0 0, .bool false])
  have hE1 := Ext.alloc (w.alloc (.cells #[.slice B7 m7 c7] 22)) (.cells #[.slice (some ⟨w.heap.size, 0, none⟩) 1 1, .int .i64 1, .int .i64 1, .slice none 0 0, .slice none 0 0, .bool false] 55)
  have HX := Lib.hid (hE0.trans hE1)
  have hS1 := Lib.hid (Rd.ext hS0 hE1)
  clear hE0 hS0 hE1
  go_enter Try.func36, Try.ntmps36
  go_upto_region 2 with fail
  change Code.wp _ _ _ _ ((w.alloc (.cells #[.slice B7 m7 c7] 22)).alloc (.cells #[.slice (some ⟨w.heap.size, 0, none⟩) 1 1, .int .i64 1, .int .i64 1, .slice none 0 0, .slice none 0 0, .bool false] 55))
  rw [World.size_alloc] at hfin
  generalize (w.alloc (.cells #[.slice B7 m7 c7] 22)).alloc (.cells #[.slice (some ⟨w.heap.size, 0, none⟩) 1 1, .int .i64 1, .int .i64 1, .slice none 0 0, .slice none 0 0, .bool false] 55) = W at *
  have HVal : Hid (HisV W (.agg (hisC (some ⟨w.heap.size, 0, none⟩) 1 1 1 1 none 0 0 none 0 0 false)) (oneH (gL ls j))) := Lib.hid
    ⟨some ⟨w.heap.size, 0, none⟩, 1, 1, none, 0, 0, none, 0, 0, rfl, ⟨_, hS1.out, LnV.single (hv.ext HX.out)⟩, nofun, ⟨none, 0, 0, rfl, Ints.none_ _, fun _ => rfl, by omega⟩, ⟨none, 0, 0, rfl, Ints.none_ _, fun _ => rfl, by omega⟩⟩
  have HF := Lib.hid (find_ok (older := true) HVal.out (Ints.none_ _) (fun _ => rfl) (hp.ext HX.out) hp0)
  have HONE := Lib.hid (one_find (l := gL ls j) hjl hp2 hp3)
  have h2' := HX.out.cell h2
  obtain ⟨k0, k1, k2, k3, k4, k5⟩ := cells6 hfin.out
  clear hL hp hS1 hc h1 h2 HVal hp0 hp3 hv
  unfold hisC at HF
  go_wp2_with fail
  refine HF.out.mono ?_
  rintro e w2 ⟨he2, hgo⟩
  have hx2 := Lib.hid (HX.out.trans he2)
  clear HF k0 k1 k2 k3 k4 k5 h2' hfin he2
  rcases hgo with ⟨k, hok, _, u, L, m, zz, rfl, hO, _⟩ | ⟨hno, x, rfl, hx⟩
  · have HT : Hid (fitsB pat (gL ls j) = true) := Lib.hid (HONE.out.1 ⟨k, hok⟩)
    obtain ⟨A6, n6, c6, S6, sn6, sc6, P6, pn6, pc6, rfl, _⟩ := hO
    clear HONE hok
    unfold hisC
    go_wp2_with fail
    go_ret
    refine ⟨ret_bool (a := true) ?_, hx2.out.to_alloc _⟩
    rw [HT.out]
  · have HT : Hid (fitsB pat (gL ls j) = false) := Lib.hid (by
      cases hf : fitsB pat (gL ls j)
      · rfl
      · obtain ⟨k, hk⟩ := HONE.out.2 hf
        exact absurd hk (hno k))
    have hxb : (x == 0) = false := by simpa using hx
    clear HONE hno hx
    unfold hisZ
    go_wp2_with fail
    go_ret
    refine ⟨ret_bool (a := false) ?_, hx2.out.to_alloc _⟩
    rw [HT.out]

set_option maxRecDepth 100000 in
set_option maxHeartbeats 8000000 in
theorem histFits_walk {w : World} {v : Value} {h : Hi} {N T0 : Option Addr} {q y t0 z0 : Nat} {now p : List Int} {older : Bool} (hv : HisV w v h) (hnow : Ints w N q y now) (hN : N = none → y = 0) (hp : Ints w T0 t0 z0 p) (hp0 : T0 = none → z0 = 0) :
    Calls Try.prog 9 #[v, .slice N q y, .slice T0 t0 z0, .bool older] w fun e w' => e = .returned (.bool true) ∧ Ext w w' := by
  have HV := Lib.hid hv
  have hLL : ∃ A n c, ∃ S sn sc P pn pc, v = .agg (hisC A n c h.most h.at_ S sn sc P pn pc h.older) ∧ Lns w A n c h.lines := by
    obtain ⟨A, n, c, S, sn, sc, P, pn, pc, e, h1, _⟩ := hv
    exact ⟨A, n, c, S, sn, sc, P, pn, pc, e, h1⟩
  obtain ⟨A, n, c, S, sn, sc, P, pn, pc, rfl, hL⟩ := hLL
  obtain ⟨ls, mo, at_, sl, pl, ol⟩ := h
  simp only at hL
  have HL := Lib.hid hL
  have HN := Lib.hid hL.len
  have hnm := Nat.le_trans hL.ncap hL.nmax
  unfold maxLen at hnm
  have HNow := Lib.hid hnow
  have HPp := Lib.hid hp
  have hb0 := Lib.hid (Blk.new w 55 (hisC A n c mo at_ S sn sc P pn pc ol))
  have hx0 := Lib.hid (Ext.alloc w (.cells (hisC A n c mo at_ S sn sc P pn pc ol) 55))
  have HPa := fun w => Lib.hid (past_ok w)
  have HOf := fun w => Lib.hid (of_ok ⟨#[110, 101]⟩ w (by decide))
  have HOf1 := fun w => Lib.hid (of_ok ⟨#[111, 110, 101]⟩ w (by decide))
  clear hv hL hnow hp
  unfold hisC at *
  go_enter Try.func9, Try.ntmps9
  go_wp2_with fail
  refine ((HPa _).out).mono ?_
  rintro e w1 ⟨u, rfl, hpv, he1⟩
  have hx1 := Lib.hid (hx0.out.trans he1)
  have B3 := Lib.hid (Blk.ext hb0.out he1)
  have HPv := Lib.hid hpv
  clear HPa hx0 hb0 he1 hpv
  go_wp2_with fail
  refine ((HOf _).out).mono ?_
  rintro e w2 ⟨A2, c2, rfl, o2, he2⟩
  have hx2 := Lib.hid (hx1.out.trans he2)
  have B32 := Lib.hid (Blk.ext B3.out he2)
  have HU := Lib.hid (find_ok (older := true) (HPv.out.ext he2) (Ints.none_ _) (fun _ => rfl) o2.ints (Own.nocap o2))
  clear HOf hx1 B3 o2 he2 HPv
  go_wp2_with fail
  refine HU.out.mono ?_
  rintro e w3 ⟨he3, hgo⟩
  rcases hgo with ⟨k0, hk0, _, u3, L, m, z, rfl, hO3, hL3, hL03⟩ | ⟨hno, _⟩
  case inr => exact absurd past_find (hno 0)
  obtain rfl : k0 = 0 := by
    have h1 := hk0.2.2.2
    have h2 := past_find.2.2.2
    rw [h2] at h1
    injection h1 with h1
    exact h1.symm
  rw [past_toL] at hL3
  obtain ⟨A3, n3, c3, S3, sn3, sc3, P3, pn3, pc3, rfl, _⟩ := hO3
  have hx3 := Lib.hid (hx2.out.trans he3)
  have B33 := Lib.hid (Blk.ext B32.out he3)
  have I3 := Lib.hid hL3.ints
  have hm3 : m = 3 := by have := hL3.ints.len; rw [← this]; decide
  subst hm3
  unfold hisC
  simp only [findH, pastH]
  clear HU hx2 B32 hL3 hL03 he3 hk0
  go_upto_region 2 with fail
  have b7 := Blk.new w3 55 #[.slice A3 n3 c3, .int .i64 5, .int .i64 0, .slice S3 sn3 sc3, .slice P3 pn3 pc3, .bool true]
  have hxa := Ext.alloc w3 (.cells #[.slice A3 n3 c3, .int .i64 5, .int .i64 0, .slice S3 sn3 sc3, .slice P3 pn3 pc3, .bool true] 55)
  change Code.wp _ _ _ _ (w3.alloc (.cells #[.slice A3 n3 c3, .int .i64 5, .int .i64 0, .slice S3 sn3 sc3, .slice P3 pn3 pc3, .bool true] 55))
  generalize w3.alloc (.cells #[.slice A3 n3 c3, .int .i64 5, .int .i64 0, .slice S3 sn3 sc3, .slice P3 pn3 pc3, .bool true] 55) = W at *
  generalize w3.heap.size = g7 at *
  have hx4 := Lib.hid (hx3.out.trans hxa)
  have B34 := Lib.hid (Blk.ext B33.out hxa)
  have I4 := Lib.hid (I3.out.ext hxa)
  have B7 := Lib.hid b7
  clear hx3 B33 I3 b7 hxa
  go_wp2_with fail
  refine ((HOf1 _).out).mono ?_
  rintro e w4 ⟨A4, c4, rfl, o4, he4⟩
  have HQ := Lib.hid (equal_ext (I4.out.ext he4) o4.ints)
  rw [eqB_true.2 rfl] at HQ
  have HE4 := Lib.hid he4
  clear HOf1 o4 he4 I4
  go_wp2_with fail
  refine HQ.out.mono ?_
  rintro e w5 ⟨rfl, he5⟩
  have he45 := HE4.out.trans he5
  have hx5 := Lib.hid (hx4.out.trans he45)
  have B35 := Lib.hid (Blk.ext B34.out he45)
  obtain ⟨_, _, u2, _⟩ := cells6 (Blk.ext B7.out he45)
  obtain ⟨k0, k1, k2, k3, k4, k5⟩ := cells6 B35.out
  have HU := Lib.hid (find_ok (older := older) (HV.out.ext hx5.out) (HNow.out.ext hx5.out) hN (HPp.out.ext hx5.out) hp0)
  clear HQ HE4 he5 he45 hx4 B34 B7
  go_wp2_with fail
  refine HU.out.mono ?_
  rintro e w6 ⟨he6, hgo⟩
  have hx6 := Lib.hid (hx5.out.trans he6)
  have B36 := Lib.hid (Blk.ext B35.out he6)
  clear HU hx5 B35 k0 k1 k2 k3 k4 k5 u2
  rcases hgo with ⟨k, hok, hkn, u6, L, m, z, rfl, hO6, hL6, hL06⟩ | ⟨_, x, rfl, hx⟩
  case inr =>
    have hxb : (x != 0) = true := by simpa using hx
    have hend := hx6.out
    clear hx HV HN HNow hx6 B36
    unfold hisZ
    go_wp2_with fail
    go_ret
    exact ⟨rfl, hend.to_alloc _⟩
  case inl =>
    obtain ⟨a, rfl⟩ : ∃ a : Nat, at_ = a := ⟨at_.toNat, by
      have := hok.1.1
      unfold Hi.bad at this
      simp only at this
      omega⟩
    have hlong := Lib.hid hok.1.2.1
    have hpat3 := Lib.hid hok.2.2.1
    obtain ⟨_, hf2, hf3, hf4, hf5⟩ := found hok.1.1 hok.2.2.2
    have hpat2 : Hid ((patE ⟨ls, mo, (a : Int), sl, pl, ol⟩ p).length ≤ 200) := Lib.hid (by
      unfold patE
      split
      · exact (long_iff.1 hok.1.2.1).2.2
      · exact hok.2.1)
    have han : a ≤ n := by
      have := hok.1.1
      unfold Hi.bad at this
      simp only at this
      rw [HN.out] at this
      omega
    have hn50 : n ≤ 50 := by
      have := hok.1.1
      unfold Hi.bad at this
      simp only at this
      rw [HN.out] at this
      omega
    simp only at hf2 hf3 hf4 hf5 hkn
    rw [HN.out] at hkn
    have hka : k ≠ a := by omega
    have Hf2 := Lib.hid hf2
    have Hf5 := Lib.hid hf5
    have hlk : Hid (toL ⟨ls, mo, (a : Int), sl, pl, ol⟩ now k = gL ls k) := Lib.hid (by unfold toL; simp only; rw [if_neg (by rw [HN.out]; omega)])
    rw [hlk.out] at hL6
    have hI6 := Lib.hid hL6.ints
    obtain ⟨A6, n6, c6, S6, sn6, sc6, P6, pn6, pc6, rfl, hO6L, _, hO6P⟩ := hO6
    simp only [findH] at hO6L hO6P
    obtain rfl : n6 = n := by rw [← hO6L.lns.len]; exact HN.out
    obtain ⟨P6', pn6', pc6', he', hI, hP60, hP68⟩ := hO6P
    injection he' with e1 e2 e3
    subst e1; subst e2; subst e3
    have HPI := Lib.hid hI.ints
    clear hok hf2 hf5 hlk hL6 hL06 hO6L hI he6 HV HNow HPp hN hp0
    generalize patE ⟨ls, mo, (a : Int), sl, pl, ol⟩ p = pat at *
    unfold hisC
    simp only [findH]
    go_upto_region 5 with fail
    generalize toS ⟨ls, mo, (a : Int), sl, pl, ol⟩ now = sc9 at *
    have b12 := Blk.new w6 55 #[.slice A6 n6 c6, .int .i64 mo, .int .i64 (k : Int), .slice S6 sn6 sc6, .slice P6 pn6 pc6, .bool older]
    have hxa := Ext.alloc w6 (.cells #[.slice A6 n6 c6, .int .i64 mo, .int .i64 (k : Int), .slice S6 sn6 sc6, .slice P6 pn6 pc6, .bool older] 55)
    change Code.wp _ _ _ _ (w6.alloc (.cells #[.slice A6 n6 c6, .int .i64 mo, .int .i64 (k : Int), .slice S6 sn6 sc6, .slice P6 pn6 pc6, .bool older] 55))
    generalize w6.alloc (.cells #[.slice A6 n6 c6, .int .i64 mo, .int .i64 (k : Int), .slice S6 sn6 sc6, .slice P6 pn6 pc6, .bool older] 55) = W6 at *
    generalize w6.heap.size = g12 at *
    have hx7 := Lib.hid (hx6.out.trans hxa)
    have B37 := Lib.hid (Blk.ext B36.out hxa)
    have B12 := Lib.hid b12
    have hI7 := Lib.hid (hI6.out.ext hxa)
    have HPI7 := Lib.hid (HPI.out.ext hxa)
    clear hx6 B36 b12 hI6 HPI hxa
    obtain ⟨k0, k1, k2, k3, k4, k5⟩ := cells6 B37.out
    obtain ⟨d0, d1, d2, d3, d4, d5⟩ := cells6 B12.out
    obtain ⟨ad, v, rfl, hc, B7, m7, c7, rfl, hI8, _⟩ := (HL.out.ext hx7.out).at_ hkn
    have HQ := Lib.hid (equal_ext hI7.out hI8)
    rw [eqB_true.2 rfl] at HQ
    have hdn : decide (n6 ≤ k) = false := by simp; omega
    have hdn2 : decide ((n6 : Int) ≤ (k : Int)) = false := by simp; omega
    have hbe : ((k : Int) == (a : Int)) = false := by simp; omega
    clear hI8 hI7 hf3
    go_upto_region 7 with fail
    have hck : (decide (k < a) = older) ∧ (decide ((k : Int) < (a : Int)) = older) := ⟨by rw [← hf4]; simp, hf4⟩
    obtain ⟨hck1, hck2⟩ := hck
    have HCK := Lib.hid hck2
    clear hf4
    go_wp2_with fail
    refine HQ.out.mono ?_
    rintro e w7 ⟨rfl, he7⟩
    have hx8 := Lib.hid (hx7.out.trans he7)
    have B38 := Lib.hid (Blk.ext B37.out he7)
    have B13 := Lib.hid (Blk.ext B12.out he7)
    have HPI8 := Lib.hid (HPI7.out.ext he7)
    clear HQ he7 hx7 B37 B12 HPI7 k0 k1 k2 k3 k4 k5 d0 d1 d2 d3 d4 d5 hc
    obtain ⟨k0, k1, k2, k3, k4, k5⟩ := cells6 B38.out
    obtain ⟨d0, d1, d2, d3, d4, d5⟩ := cells6 B13.out
    obtain ⟨lo, hi, hlo, hhi, hlh, hin, hcase⟩ : ∃ lo hi : Nat, min (k : Int) (a : Int) = (lo : Int) ∧ max (k : Int) (a : Int) = (hi : Int) ∧ lo < hi ∧ hi ≤ n6 ∧ ((k = lo ∧ a = hi) ∨ (a = lo ∧ k = hi)) := by
      rcases Nat.lt_or_ge k a with h | h
      · exact ⟨k, a, by omega, by omega, by omega, by omega, .inl ⟨rfl, rfl⟩⟩
      · exact ⟨a, k, by omega, by omega, by omega, by omega, .inr ⟨rfl, rfl⟩⟩
    have HLO := Lib.hid hlo
    have HHI := Lib.hid hhi
    clear hlo hhi hck1 hck2
    have holder : older = decide ((k : Int) < (a : Int)) := HCK.out.symm
    clear HCK
    rcases hcase with ⟨h1, h2⟩ | ⟨h1, h2⟩
    · have hlt : k < a := by omega
      have hd1 : decide (k < a) = true := by simp; omega
      have hd2 : decide ((k : Int) < (a : Int)) = true := by simp; omega
      obtain rfl : older = true := by rw [holder, hd2]
      subst h1; subst h2
      clear holder
      go_wp2_with fail
      go_loopw [16] (fun s wr => ∃ j : Nat, s = .int .i64 (j : Int) ∧ k + 1 ≤ j ∧ j ≤ a ∧ Hid (Ext w7 wr)) (fun s _ => a - (intOf s).toNat)
      case atStart => exact ⟨k + 1, by go_num, by omega, by omega, Lib.hid (Ext.refl _)⟩
      case round =>
        clear k0 k1 k2 k3 k4 k5 d0 d1 d2 d3 d4 d5
        obtain ⟨j, rfl, hj1, hj2, hxr⟩ := hrel
        obtain ⟨k0, k1, k2, k3, k4, k5⟩ := cells6 (Blk.ext B38.out hxr.out)
        obtain ⟨d0, d1, d2, d3, d4, d5⟩ := cells6 (Blk.ext B13.out hxr.out)
        have hLr := HL.out.ext (hx8.out.trans hxr.out)
        by_cases hlt2 : j < a
        · have hfj := Hf5.out j (by omega) (by omega)
          have hjl := (long_iff.1 hlong.out).1 j (by simp only; rw [HN.out]; omega)
          simp only at hjl
          have hC := Lib.hid (fits1_ok (j := j) k0 hLr (by omega) hjl d4 (HPI8.out.ext hxr.out) hP60 hpat2.out hpat3.out)
          rw [hfj] at hC
          clear hfj hjl hLr
          go_wp2_with fail
          refine hC.out.mono ?_
          rintro e w8 ⟨rfl, he8⟩
          have hx9 := Lib.hid (hxr.out.trans he8)
          clear hC he8 hxr k0 k1 k2 k3 k4 k5 d0 d1 d2 d3 d4 d5
          go_wp2_with fail
          go_roundw
          case rel => exact ⟨j + 1, by go_num, by omega, by omega, hx9⟩
          case measure => simp [intOf]; omega
        · have hjl := (long_iff.1 hlong.out).1 k (by simp only; rw [HN.out]; omega)
          simp only at hjl
          have hC := Lib.hid (fits1_ok (j := k) k0 hLr hkn hjl d4 (HPI8.out.ext hxr.out) hP60 hpat2.out hpat3.out)
          rw [Hf2.out] at hC
          obtain rfl : j = a := by omega
          clear hjl hLr hlt2
          go_wp2_with fail
          refine hC.out.mono ?_
          rintro e w8 ⟨rfl, he8⟩
          have hend := (hx8.out.trans hxr.out).trans he8
          clear hC he8 hxr k0 k1 k2 k3 k4 k5 d0 d1 d2 d3 d4 d5
          go_wp2_with fail
          go_ret
          exact ⟨rfl, hend⟩
    · have hlt : a < k := by omega
      have hd1 : decide (k < a) = false := by simp; omega
      have hd2 : decide ((k : Int) < (a : Int)) = false := by simp; omega
      obtain rfl : older = false := by rw [holder, hd2]
      subst h1; subst h2
      clear holder
      go_wp2_with fail
      go_loopw [16] (fun s wr => ∃ j : Nat, s = .int .i64 (j : Int) ∧ a + 1 ≤ j ∧ j ≤ k ∧ Hid (Ext w7 wr)) (fun s _ => k - (intOf s).toNat)
      case atStart => exact ⟨a + 1, by go_num, by omega, by omega, Lib.hid (Ext.refl _)⟩
      case round =>
        clear k0 k1 k2 k3 k4 k5 d0 d1 d2 d3 d4 d5
        obtain ⟨j, rfl, hj1, hj2, hxr⟩ := hrel
        obtain ⟨k0, k1, k2, k3, k4, k5⟩ := cells6 (Blk.ext B38.out hxr.out)
        obtain ⟨d0, d1, d2, d3, d4, d5⟩ := cells6 (Blk.ext B13.out hxr.out)
        have hLr := HL.out.ext (hx8.out.trans hxr.out)
        by_cases hlt2 : j < k
        · have hfj := Hf5.out j (by omega) (by omega)
          have hjl := (long_iff.1 hlong.out).1 j (by simp only; rw [HN.out]; omega)
          simp only at hjl
          have hC := Lib.hid (fits1_ok (j := j) k0 hLr (by omega) hjl d4 (HPI8.out.ext hxr.out) hP60 hpat2.out hpat3.out)
          rw [hfj] at hC
          clear hfj hjl hLr
          go_wp2_with fail
          refine hC.out.mono ?_
          rintro e w8 ⟨rfl, he8⟩
          have hx9 := Lib.hid (hxr.out.trans he8)
          clear hC he8 hxr k0 k1 k2 k3 k4 k5 d0 d1 d2 d3 d4 d5
          go_wp2_with fail
          go_roundw
          case rel => exact ⟨j + 1, by go_num, by omega, by omega, hx9⟩
          case measure => simp [intOf]; omega
        · have hjl := (long_iff.1 hlong.out).1 k (by simp only; rw [HN.out]; omega)
          simp only at hjl
          have hC := Lib.hid (fits1_ok (j := k) k0 hLr hkn hjl d4 (HPI8.out.ext hxr.out) hP60 hpat2.out hpat3.out)
          rw [Hf2.out] at hC
          obtain rfl : j = k := by omega
          clear hjl hLr hlt2
          go_wp2_with fail
          refine hC.out.mono ?_
          rintro e w8 ⟨rfl, he8⟩
          have hend := (hx8.out.trans hxr.out).trans he8
          clear hC he8 hxr k0 k1 k2 k3 k4 k5 d0 d1 d2 d3 d4 d5
          go_wp2_with fail
          go_ret
          exact ⟨rfl, hend⟩
end Go.Proofs.Ytbhbakejpgndmaa
