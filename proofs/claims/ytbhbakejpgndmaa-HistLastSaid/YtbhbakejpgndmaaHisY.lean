/-
  The walk of HistLast.
-/
import Derived.Test.YtbhbakejpgndmaaHisX
import Derived.Test.YtbhbakejpgndmaaSameL
import Derived.Test.YtbhbakejpgndmaaCut
import Derived.IntWalk
namespace Go.Proofs.Ytbhbakejpgndmaa
open Go.RowKit
set_option linter.unusedVariables false
set_option linter.unusedSimpArgs false

/-- A history in a block. -/
def HisAt (w : World) (g : Nat) (h : Hi) : Prop := ∃ A n c S sn sc P pn pc, Blk w g 55 (hisC A n c h.most h.at_ S sn sc P pn pc h.older) ∧ HisO w (g + 1) (.agg (hisC A n c h.most h.at_ S sn sc P pn pc h.older)) h
theorem HisAt.ext {w w' : World} {g : Nat} {h : Hi} (hh : HisAt w g h) (he : Ext w w') : HisAt w' g h := by
  obtain ⟨A, n, c, S, sn, sc, P, pn, pc, h1, h2⟩ := hh
  exact ⟨A, n, c, S, sn, sc, P, pn, pc, h1.ext he, h2.ext he⟩
theorem HisO.eqv {N : List Nat} {w w' : World} {b : Nat} {v : Value} {h : Hi} (hh : HisO w b v h) (he : Eqv N w w') (hN : ∀ k, b ≤ k → k < w.heap.size → k ∉ N) : HisO w' b v h := by
  obtain ⟨A, n, c, S, sn, sc, P, pn, pc, rfl, h1, h2, h3⟩ := hh
  exact ⟨A, n, c, S, sn, sc, P, pn, pc, rfl, ((h1.apart hN).eqv he).o, h2.eqv he (fun k hk => hN k (h2.blk k hk).1 (h2.blk k hk).2), h3.eqv he (fun k hk => hN k (h3.blk k hk).1 (h3.blk k hk).2)⟩
theorem HisO.z (w : World) (b : Nat) (most : Int) : HisO w b (.agg (hisC none 0 0 most 0 none 0 0 none 0 0 false)) ⟨[], most, 0, [], [], false⟩ := ⟨none, 0, 0, none, 0, 0, none, 0, 0, rfl, LnsO.nil _ _, RegOw.nil _ _, RegOw.nil _ _⟩
theorem LnV.snoc {w : World} {xs : List Value} {ls : List (List Int)} {u : Value} {l : List Int} (h : LnV w xs ls) (hu : RegSl w u l) : LnV w (xs ++ [u]) (ls ++ [l]) := by
  refine ⟨by simp [h.1], fun i hi => ?_⟩
  rw [List.length_append, List.length_singleton] at hi
  rcases Nat.lt_or_ge i ls.length with hlt | hge
  · obtain ⟨x, h1, h2⟩ := h.2 i hlt
    exact ⟨x, by rw [List.getElem?_append_left (by rw [h.1]; exact hlt)]; exact h1, by rw [gL_left hlt]; exact h2⟩
  · obtain rfl : i = ls.length := by omega
    exact ⟨u, by rw [List.getElem?_append_right (by rw [h.1]; exact Nat.le_refl _), h.1, Nat.sub_self]; rfl, by rw [gL_last]; exact hu⟩

theorem elem_sls : Try.prog.underlying 53 = some (.slice (Try.prog.elem 53)) := by kernel_rfl
theorem size_sl (w : World) : (sizeOf (Try.prog.elem 53)).run Try.prog w = .ok 1 w := by kernel_rfl
/-- l[a:] of slices -/
theorem run_tailL (A : Option Addr) (n c a : Nat) (h1 : a ≤ n) (u : World) :
    (Instr.slice 53 (.slice A n c) (some (.int .i64 (a : Int))) none none).run Try.prog u = .ok (.slice (cutA A c a) (n - a) (c - a)) u := by
  rw [run_slice_l u 53 A n c elem_sls .i64 a (by omega) (by omega), size_sl]
  simp [sliced, cutA, Result.andThen]
theorem Lns.tail {w : World} {A : Option Addr} {n c : Nat} {ls : List (List Int)} {xs : List Value} (h : Rd w 1 A n c xs) (hv : LnV w xs ls) {a : Nat} (ha : a ≤ n) : Lns w (cutA A c a) (n - a) (c - a) (ls.drop a) := by
  have hl := h.len
  have := Rd.cut h ha (Nat.le_refl n)
  rw [Nat.mul_one, Nat.mul_one] at this
  refine ⟨xs.drop a, ?_, by simp [hv.1], fun i hi => ?_⟩
  · rw [List.take_of_length_le (by rw [List.length_drop]; omega)] at this
    exact this
  · rw [List.length_drop] at hi
    obtain ⟨v, h1, h2⟩ := hv.2 (a + i) (by omega)
    refine ⟨v, by rw [List.getElem?_drop]; exact h1, ?_⟩
    unfold gL at h2 ⊢
    rw [List.getElem?_drop]
    exact h2
theorem LnV.len {w : World} {xs : List Value} {ls : List (List Int)} (h : LnV w xs ls) : xs.length = ls.length := h.1

/-- What Up answers, in one form. -/
def GoesU (ok : Prop) (h2 : Hi) (w : World) (v : Value) (w' : World) : Prop :=
  ∃ (A : Option Addr) (n c : Nat) (mo at_ : Int) (S : Option Addr) (sn sc : Nat) (P : Option Addr) (pn pc : Nat) (ol : Bool) (L : Option Addr) (m z : Nat) (x : Int),
    v = .tuple #[.agg #[.slice A n c, .int .i64 mo, .int .i64 at_, .slice S sn sc, .slice P pn pc, .bool ol], .slice L m z, .int .i64 x] ∧ Ext w w' ∧
    (x = 0 → ok ∧ mo = h2.most ∧ at_ = h2.at_ ∧ ol = h2.older ∧ HisO w' w.heap.size (.agg (hisC A n c mo at_ S sn sc P pn pc ol)) h2)
theorem goesU {ok : Prop} {h : Hi} {now : List Int} {k : Nat} {w : World} {e : Ending} {w' : World} (hg : Goes ok h now k w e w') : ∃ v, e = .returned v ∧ GoesU ok (toH h now k) w v w' := by
  obtain ⟨he, hg⟩ := hg
  rcases hg with ⟨hok, u, L, m, z, rfl, hO, _⟩ | ⟨_, x, rfl, hx⟩
  · obtain ⟨A, n, c, S, sn, sc, P, pn, pc, rfl, h2⟩ := hO
    exact ⟨_, rfl, A, n, c, _, _, S, sn, sc, P, pn, pc, _, L, m, z, 0, rfl, he, fun _ => ⟨hok, rfl, rfl, rfl, A, n, c, S, sn, sc, P, pn, pc, rfl, h2⟩⟩
  · exact ⟨_, rfl, none, 0, 0, 0, 0, none, 0, 0, none, 0, 0, false, none, 0, 0, x, rfl, he, fun h0 => absurd h0 hx⟩

set_option maxRecDepth 100000 in
set_option maxHeartbeats 8000000 in
theorem histLast_walk {w : World} {most : Int} {L U : Option Addr} {n c nu cu : Nat} {ls : List (List Int)} {up : List Int} (hL : Lns w L n c ls) (hn24 : n * 24 ≤ 140737488351232) (hU : Ints w U nu cu up) :
    Calls Try.prog 8 #[.int .i64 most, .slice L n c, .slice U nu cu] w fun e w' => e = .returned (.bool true) ∧ Ext w w' := by
  obtain ⟨i0, hi, hz0, hz1, hz2⟩ := info_parts info_sl
  have HI := Lib.hid hi
  clear hi
  have HL := Lib.hid hL
  have HU := Lib.hid hU
  have HN := Lib.hid hL.len
  have hnm := Nat.le_trans hL.ncap hL.nmax
  have hum := Nat.le_trans hU.ncap hU.nmax
  unfold maxLen at hnm hum
  have HPa := fun w => Lib.hid (past_ok w)
  have HOf := fun w => Lib.hid (of_ok ⟨#[116, 104, 114, 101, 101]⟩ w (by decide))
  clear hL hU
  go_enter Try.func8, Try.ntmps8
  go_wp2_with fail
  refine ((HPa _).out).mono ?_
  rintro e w1 ⟨u, rfl, hpv, he1⟩
  have hx1 := Lib.hid he1
  have HPv := Lib.hid hpv
  clear HPa he1 hpv
  go_wp2_with fail
  refine ((HOf _).out).mono ?_
  rintro e w2 ⟨A2, c2, rfl, o2, he2⟩
  have hx2 := Lib.hid (hx1.out.trans he2)
  have HU2 := Lib.hid (add_ok (HPv.out.ext he2) o2.ints (Own.nocap o2))
  clear HOf hx1 o2 he2 HPv
  go_wp2_with fail
  refine HU2.out.mono ?_
  rintro e w3 ⟨he3, hgo⟩
  rcases hgo with ⟨_, u3, rfl, hO3⟩ | ⟨hno, _⟩
  case inr => exact absurd past_add.1 hno
  obtain ⟨A3, n3, c3, S3, sn3, sc3, P3, pn3, pc3, rfl, hL3, _⟩ := hO3
  have hx3 := Lib.hid (hx2.out.trans he3)
  obtain rfl : n3 = 3 := by rw [← hL3.lns.len]; exact past_add.2
  have hat3 : Hid ((addH pastH (chars ⟨#[116, 104, 114, 101, 101]⟩)).at_ = 3) := Lib.hid (by unfold addH; simp only; rw [past_add.2]; rfl)
  clear HU2 hx2 hL3 he3
  unfold hisC
  rw [hat3.out]
  generalize (addH pastH (chars ⟨#[116, 104, 114, 101, 101]⟩)).most = mo3
  generalize (addH pastH (chars ⟨#[116, 104, 114, 101, 101]⟩)).older = ol3
  clear hat3
  go_upto_region 2 with fail
  have b7 := Blk.new w3 55 #[.slice A3 3 c3, .int .i64 mo3, .int .i64 3, .slice S3 sn3 sc3, .slice P3 pn3 pc3, .bool ol3]
  have hxa := Ext.alloc w3 (.cells #[.slice A3 3 c3, .int .i64 mo3, .int .i64 3, .slice S3 sn3 sc3, .slice P3 pn3 pc3, .bool ol3] 55)
  change Code.wp _ _ _ _ (w3.alloc (.cells #[.slice A3 3 c3, .int .i64 mo3, .int .i64 3, .slice S3 sn3 sc3, .slice P3 pn3 pc3, .bool ol3] 55))
  generalize w3.alloc (.cells #[.slice A3 3 c3, .int .i64 mo3, .int .i64 3, .slice S3 sn3 sc3, .slice P3 pn3 pc3, .bool ol3] 55) = W at *
  generalize w3.heap.size = g7 at *
  have HX := Lib.hid (hx3.out.trans hxa)
  obtain ⟨u0, u1, u2, u3, u4, u5⟩ := cells6 b7
  clear hx3 b7 hxa
  by_cases hm1 : most < 1
  · have hend := HX.out
    go_wp2_with fail
    go_ret
    exact ⟨rfl, hend⟩
  by_cases hm2 : 50 < most
  · have hend := HX.out
    have hm3 : 1 ≤ most := by omega
    clear hm1
    go_wp2_with fail
    go_ret
    exact ⟨rfl, hend⟩
  have hm3 : 1 ≤ most := by omega
  have hm4 : most ≤ 50 := by omega
  have hmb1 : decide (most < 1) = false := by simp; omega
  have hmb2 : decide (50 < most) = false := by simp; omega
  clear hm1 hm2
  have hb9 := Lib.hid (Blk.new W 55 #[.slice none 0 0, .int .i64 most, .int .i64 0, .slice none 0 0, .slice none 0 0, .bool false])
  have hx9 := Lib.hid (Ext.alloc W (.cells #[.slice none 0 0, .int .i64 most, .int .i64 0, .slice none 0 0, .slice none 0 0, .bool false] 55))
  go_upto_region 7 with fail
  change Code.wp _ _ _ _ (W.alloc (.cells #[.slice none 0 0, .int .i64 most, .int .i64 0, .slice none 0 0, .slice none 0 0, .bool false] 55))
  generalize W.alloc (.cells #[.slice none 0 0, .int .i64 most, .int .i64 0, .slice none 0 0, .slice none 0 0, .bool false] 55) = W9 at *
  have hg9 : W.heap.size < W9.heap.size := hb9.out.lt
  have hwg : w.heap.size ≤ W.heap.size := HX.out.hsize
  have HA9 : Hid (HisAt W9 W.heap.size ⟨[], most, 0, [], [], false⟩) := Lib.hid ⟨none, 0, 0, none, 0, 0, none, 0, 0, hb9.out, HisO.z _ _ _⟩
  have HX9 := Lib.hid (HX.out.trans hx9.out)
  clear u0 u1 u2 u3 u4 u5 hb9 hx9 HX
  generalize W.heap.size = g9 at *
  go_wp2_with fail
  go_loopw [10, 46] (fun s10 s46 wr => ∃ (k : Nat) (T : Option Addr) (m tc : Nat) (xs : List Value) (h : Hi), k ≤ n ∧ s46 = .int .i64 (k : Int) ∧ s10 = .slice T m tc ∧ m ≤ k ∧ Hid (Own wr (g9 + 1) 22 1 T m tc xs) ∧ Hid (LnV w xs (neL (ls.take k))) ∧ Hid (HInv most (neL (ls.take k)) h) ∧ Hid (HisAt wr g9 h) ∧ Hid (Ext w wr) ∧ g9 < wr.heap.size) (fun _ s46 _ => n - (intOf s46).toNat)
  case atStart => exact ⟨0, none, 0, 0, [], _, by omega, rfl, rfl, by omega, Lib.hid (Own.nil _ _ _ _), Lib.hid (by simpa [neL] using LnV.nil w), Lib.hid (by simpa [neL] using HInv.start hm3 hm4), HA9, HX9, hg9⟩
  case round =>
    clear HA9 HX9 hg9
    obtain ⟨k, T, m, tc, xs, h, hk, rfl, rfl, hmk, HO, HV, HH, HA, HX, hgr⟩ := hrel
    by_cases hlt : k < n
    · obtain ⟨A, n', c', S, sn, sc, P, pn, pc, hB9, hHis⟩ := HA.out
      obtain ⟨ad, v, rfl, hc, B, mm, q, rfl, hI, hB0, hB8⟩ := (HL.out.ext HX.out).at_ hlt
      have hlm := Lib.hid hI.len
      have hmq := Nat.le_trans hI.ncap hI.nmax
      unfold maxLen at hmq
      have hRS : Hid (RegSl w (.slice B mm q) (gL ls k)) := Lib.hid (by
        obtain ⟨ad', v', e1, h1, h2⟩ := HL.out.at_ hlt
        injection e1 with e1
        subst e1
        have h3 := HX.out.cell h1
        rw [hc] at h3
        injection h3 with h3
        rw [h3]
        exact h2)
      obtain ⟨hl, hmo, hat, hs, hp, ho⟩ := h
      simp only at hB9 hHis
      have HB9 := Lib.hid hB9
      have HAd := Lib.hid (add_ok hHis.v hI hB0)
      unfold hisC at HAd HB9
      obtain ⟨k0, k1, k2, k3, k4, k5⟩ := cells6 HB9.out
      clear hB9 hHis hI hB0 hB8 HA
      go_wp2_with fail
      refine HAd.out.mono ?_
      rintro e w1 ⟨he1, hgo⟩
      have B91 := Lib.hid (Blk.ext HB9.out he1)
      obtain ⟨c0, c1, c2', c3', c4', c5'⟩ := cells6 B91.out
      obtain ⟨f0, f1, f2, f3, f4, f5⟩ := frozen6 B91.out
      rcases hgo with ⟨hok, u, rfl, hO⟩ | ⟨hno, x, rfl, hx⟩
      case inr =>
        have hm200 : ¬ mm ≤ 200 := fun hh => hno (HH.out.ok.2 (by rw [hlm.out]; exact hh))
        have hm201 : (200 : Int) < (mm : Int) := by omega
        have hm202 : decide ((200 : Int) < (mm : Int)) = true := by simp; omega
        have hxb : (x != 0) = true := by simpa using hx
        have hend := Lib.hid (st6_ext (HX.out.trans he1) hwg (.slice none 0 0) (.int .i64 0) (.int .i64 0) (.slice none 0 0) (.slice none 0 0) (.bool false))
        unfold st6 at hend
        clear hx hno hm200 HAd he1 HO HV HH HX HB9 B91
        unfold hisZ
        go_wp2_with fail
        go_ret
        exact ⟨rfl, hend.out⟩
      case inl =>
        obtain ⟨A', n1, cc1, S', sn', sc', P', pn', pc', rfl, hOr⟩ := hO
        have HOb : Hid (HisO w1 wr.heap.size (.agg (hisC A' n1 cc1 (addH ⟨hl, hmo, hat, hs, hp, ho⟩ (gL ls k)).most (addH ⟨hl, hmo, hat, hs, hp, ho⟩ (gL ls k)).at_ S' sn' sc' P' pn' pc' (addH ⟨hl, hmo, hat, hs, hp, ho⟩ (gL ls k)).older)) (addH ⟨hl, hmo, hat, hs, hp, ho⟩ (gL ls k))) := Lib.hid
          ⟨A', n1, cc1, S', sn', sc', P', pn', pc', rfl, hOr⟩
        have hTb : Hid (∀ k, (Value.slice T m tc).ownBlock = some k → k < wr.heap.size) := Lib.hid (fun k hk => (Own.blk HO.out k hk).2)
        have HO' : Hid (HisO w1 (g9 + 1) (.agg (hisC A' n1 cc1 (addH ⟨hl, hmo, hat, hs, hp, ho⟩ (gL ls k)).most (addH ⟨hl, hmo, hat, hs, hp, ho⟩ (gL ls k)).at_ S' sn' sc' P' pn' pc' (addH ⟨hl, hmo, hat, hs, hp, ho⟩ (gL ls k)).older)) (addH ⟨hl, hmo, hat, hs, hp, ho⟩ (gL ls k))) := Lib.hid
          (HisO.lower ⟨A', n1, cc1, S', sn', sc', P', pn', pc', rfl, hOr⟩ (show g9 + 1 ≤ wr.heap.size from hgr))
        have HI2 := Lib.hid (HH.out.add hok.2.2)
        have hm200 : mm ≤ 200 := by have := hok.2.2; rw [hlm.out] at this; exact this
        generalize addH ⟨hl, hmo, hat, hs, hp, ho⟩ (gL ls k) = h2 at *
        obtain ⟨hl2, hmo2, hat2, hs2, hp2, ho2⟩ := h2
        simp only at HO' HOb
        have HOw := Lib.hid (Own.ext HO.out he1)
        have HX1 := Lib.hid (HX.out.trans he1)
        have hg91 : g9 < w1.heap.size := Nat.lt_of_lt_of_le hgr he1.hsize
        have R1 : Hid (HisAt (st6 w1 g9 (.slice A' n1 cc1) (.int .i64 hmo2) (.int .i64 hat2) (.slice S' sn' sc') (.slice P' pn' pc') (.bool ho2)) g9 ⟨hl2, hmo2, hat2, hs2, hp2, ho2⟩) := Lib.hid
          ⟨A', n1, cc1, S', sn', sc', P', pn', pc', st6_blk B91.out _ _ _ _ _ _, st6_his HO'.out (Nat.lt_succ_self g9) _ _ _ _ _ _⟩
        have R2 := Lib.hid (st6_own HOw.out (Nat.lt_succ_self g9) (.slice A' n1 cc1) (.int .i64 hmo2) (.int .i64 hat2) (.slice S' sn' sc') (.slice P' pn' pc') (.bool ho2))
        have R3 := Lib.hid (st6_ext HX1.out hwg (.slice A' n1 cc1) (.int .i64 hmo2) (.int .i64 hat2) (.slice S' sn' sc') (.slice P' pn' pc') (.bool ho2))
        have R1c := Lib.hid (st6_his HOb.out hgr (.slice A' n1 cc1) (.int .i64 hmo2) (.int .i64 hat2) (.slice S' sn' sc') (.slice P' pn' pc') (.bool ho2))
        have R1d := Lib.hid (st6_blk B91.out (.slice A' n1 cc1) (.int .i64 hmo2) (.int .i64 hat2) (.slice S' sn' sc') (.slice P' pn' pc') (.bool ho2))
        have R4 : g9 < (st6 w1 g9 (.slice A' n1 cc1) (.int .i64 hmo2) (.int .i64 hat2) (.slice S' sn' sc') (.slice P' pn' pc') (.bool ho2)).heap.size := (st6_blk B91.out _ _ _ _ _ _).lt
        unfold st6 at R1 R2 R3 R4 R1c R1d
        clear hok HAd he1 HO HX HB9 hOr HO' HOb HOw HX1 HH B91
        unfold hisC
        simp only
        go_upto_region 13 with fail
        clear c0 c1 c2' c3' c4' c5' f0 f1 f2 f3 f4 f5 k0 k1 k2 k3 k4 k5 hc
        generalize (((((w1.setCell ⟨g9, 0, none⟩ (.slice A' n1 cc1)).setCell ⟨g9, 1, none⟩ (.int .i64 hmo2)).setCell ⟨g9, 2, none⟩ (.int .i64 hat2)).setCell ⟨g9, 3, none⟩ (.slice S' sn' sc')).setCell ⟨g9, 4, none⟩ (.slice P' pn' pc')).setCell ⟨g9, 5, none⟩ (.bool ho2) = W1 at *
        go_upto_if 64 with fail
        go_cut [10] (fun s10 wx => ∃ (T : Option Addr) (m tc : Nat) (xs : List Value), s10 = .slice T m tc ∧ m ≤ k + 1 ∧ Hid (Own wx (g9 + 1) 22 1 T m tc xs) ∧ Hid (LnV w xs (neL (ls.take (k + 1)))) ∧ Hid (HisAt wx g9 ⟨hl2, hmo2, hat2, hs2, hp2, ho2⟩) ∧ Hid (Ext w wx) ∧ g9 < wx.heap.size)
        case first =>
          cases hb : decide (0 < mm)
          · have hm0 : Hid (neL (ls.take (k + 1)) = neL (ls.take k)) := Lib.hid (by rw [neL_snoc (by rw [HN.out]; exact hlt), if_pos (by rw [hlm.out]; simp at hb; omega), List.append_nil])
            clear hb
            go_wp2_with fail
            go_meet
            exact ⟨T, m, tc, xs, rfl, by omega, R2, Lib.hid (by rw [hm0.out]; exact HV.out), R1, R3, R4⟩
          · have hm0 : Hid (neL (ls.take (k + 1)) = neL (ls.take k) ++ [gL ls k]) := Lib.hid (by rw [neL_snoc (by rw [HN.out]; exact hlt), if_neg (by rw [hlm.out]; simp at hb; omega)])
            clear hb
            have hown := R2.out
            have hx := R3.out
            go_wp2_with (at_builtin; refine wpList_push rfl (.tmp 65) (.tmp 67) 53 rfl w (g9 + 1) 22 i0 (.slice none 0 0) 1 24 Try.underlying53 HI.out hz0 hz1 hz2 rfl (by decide) T m tc xs rfl hown #[.slice B mm q] rfl ?_ rfl ?_ ?_ hx (by omega) (by omega) ?_)
            · simp [Value.oneCell']
            · unfold maxLen; omega
            · omega
            · intro T' tc' w5 hown' hgr' _ hx'
              have R1' : Hid (HisAt w5 g9 ⟨hl2, hmo2, hat2, hs2, hp2, ho2⟩) := Lib.hid
                ⟨A', n1, cc1, S', sn', sc', P', pn', pc', Blk.grown R1d.out hgr' (fun e => by have := (Own.blk R2.out _ e.symm).1; omega),
                  (HisO.eqv R1c.out (Eqv.grown (N := (Value.slice T m tc).ownBlock.toList) hgr' (fun k hk => by rw [hk]; simp)) (fun k h1 _ hm => by
                    have h2 : (Value.slice T m tc).ownBlock = some k := by simpa using hm
                    have := hTb.out k h2
                    omega)).lower (by omega)⟩
              have R2' : Hid (Own w5 (g9 + 1) 22 1 T' (m + 1) tc' (xs ++ [.slice B mm q])) := Lib.hid (by simpa using hown')
              have R3' := Lib.hid hx'
              have R4' : g9 < w5.heap.size := Nat.lt_of_lt_of_le R4 hgr'.size
              clear hown hx hown' hgr' hx' R1 R2 R3 R1c R1d
              go_wp2_with fail
              go_meet
              exact ⟨T', m + 1, tc', _, rfl, by omega, R2', Lib.hid (by rw [hm0.out]; exact HV.out.snoc hRS.out), R1', R3', R4'⟩
        case rest =>
          clear R1 R2 R3 R4 R1c R1d hTb HV HI hz0 hz1 hz2 hlm hRS
          obtain ⟨T, m, tc, xs, rfl, hmk1, HO, HV, HA, HX, hg5⟩ := hcut
          have hkn : (k : Int) < (n : Int) := by omega
          go_upto_if 72 with fail
          cases hb : decide (k < nu)
          · clear hb
            have HH3 := Lib.hid HI2.out
            go_wp2_with fail
            go_roundw
            case rel => exact ⟨k + 1, T, m, tc, xs, _, by omega, by go_num, rfl, hmk1, HO, HV, Lib.hid (by rw [neL_snoc (by rw [HN.out]; exact hlt)]; exact HH3.out), HA, HX, hg5⟩
            case measure => simp [intOf]; omega
          · have hku : k < nu := by simpa using hb
            clear hb
            obtain ⟨ua, hua, huc⟩ := (HU.out.ext HX.out).at_ hku
            subst hua
            have hucell : (wc.drew).cell? (ua.add k) = some (.int .i64 (gI up k)) := huc k hku
            obtain ⟨A, n', c', S, sn, sc, P, pn, pc, hB9, hHis⟩ := HA.out
            simp only at hB9 hHis
            have HB9 := Lib.hid hB9
            have HUp := Lib.hid (fun (wq : World) (hq : Ext wc wq) => up_ok (k := gI up k) (hHis.v.ext hq) (Ints.none_ wq) (fun _ => rfl))
            unfold hisC at HB9 HUp
            obtain ⟨k0, k1, k2, k3, k4, k5⟩ := cells6 HB9.out
            obtain ⟨j0, j1, j2, j3, j4, j5⟩ := cells6 (Blk.ext HB9.out (Ext.alloc wc (.cells hisZ 55)))
            clear huc hB9 hHis
            go_upto_region 18 with fail
            have b14 : Hid (Blk ((wc.alloc (.cells hisZ 55)).drew) wc.heap.size 55 hisZ) := Lib.hid ((Blk.new wc 55 hisZ).ext (Ext.drew _))
            have ha14 := Lib.hid ((Ext.alloc wc (.cells hisZ 55)).to_drew)
            have hu1 : wc.cell? (ua.add k) = some (.int .i64 (gI up k)) := hucell
            have hu2 : (wc.alloc (.cells hisZ 55)).cell? (ua.add k) = some (.int .i64 (gI up k)) := (Ext.alloc wc _).cell hu1
            clear hucell
            unfold hisZ at b14 ha14 hu2 j0 j1 j2 j3 j4 j5
            go_region_law (first
              | (refine step_call rfl 28 #[.agg #[.slice A n' c', .int .i64 hmo2, .int .i64 hat2, .slice S sn sc, .slice P pn pc, .bool ho2], .slice none 0 0, .int .i64 (gI up k)] (by kernel_rfl) (GoesU (Good ⟨hl2, hmo2, hat2, hs2, hp2, ho2⟩ [] (gI up k) ∧ (farH (gI up k) : Int) ≤ hat2) (toH ⟨hl2, hmo2, hat2, hs2, hp2, ho2⟩ [] (hat2.toNat - farH (gI up k))) wc.drew) ((HUp.out _ (Ext.drew wc)).mono fun e w' hg => goesU hg) ?_
                 rintro v w3 ⟨A8, n8, c8, mo8, at8, S8, sn8, sc8, P8, pn8, pc8, ol8, L8, m8, z8, x8, rfl, he8, hx8⟩
                 have hkind := Lib.hid (show True from trivial))
              | (refine step_call rfl 28 #[.agg #[.slice A n' c', .int .i64 hmo2, .int .i64 hat2, .slice S sn sc, .slice P pn pc, .bool ho2], .slice none 0 0, .int .i64 (gI up k)] (by kernel_rfl) (GoesU (Good ⟨hl2, hmo2, hat2, hs2, hp2, ho2⟩ [] (gI up k) ∧ (farH (gI up k) : Int) ≤ hat2) (toH ⟨hl2, hmo2, hat2, hs2, hp2, ho2⟩ [] (hat2.toNat - farH (gI up k))) _) ((HUp.out _ ha14.out).mono fun e w' hg => goesU hg) ?_
                 rintro v w3 ⟨A8, n8, c8, mo8, at8, S8, sn8, sc8, P8, pn8, pc8, ol8, L8, m8, z8, x8, rfl, he8, hx8⟩
                 have hb14 := Blk.ext b14.out he8
                 obtain ⟨d0, d1, d2, d3, d4, d5⟩ := cells6 hb14
                 obtain ⟨f0, f1, f2, f3, f4, f5⟩ := frozen6 hb14))
            all_goals
              go_simp
              first
              | (have hkind' := hkind
                 have hxe := (Ext.drew wc).trans he8
                 have hFB := Lib.hid (Blk.new w3 55 #[.slice A8 n8 c8, .int .i64 mo8, .int .i64 at8, .slice S8 sn8 sc8, .slice P8 pn8 pc8, .bool ol8])
                 have hFE := Lib.hid (hxe.to_alloc (.cells #[.slice A8 n8 c8, .int .i64 mo8, .int .i64 at8, .slice S8 sn8 sc8, .slice P8 pn8 pc8, .bool ol8] 55))
                 have hg14 : g9 < w3.heap.size := Nat.lt_of_lt_of_le hg5 hxe.hsize
                 have hFO : Hid (x8 = 0 → (farH (gI up k) : Int) ≤ hat2 ∧ mo8 = (toH ⟨hl2, hmo2, hat2, hs2, hp2, ho2⟩ [] (hat2.toNat - farH (gI up k))).most ∧ at8 = (toH ⟨hl2, hmo2, hat2, hs2, hp2, ho2⟩ [] (hat2.toNat - farH (gI up k))).at_ ∧ ol8 = (toH ⟨hl2, hmo2, hat2, hs2, hp2, ho2⟩ [] (hat2.toNat - farH (gI up k))).older ∧ HisO (w3.alloc (.cells #[.slice A8 n8 c8, .int .i64 mo8, .int .i64 at8, .slice S8 sn8 sc8, .slice P8 pn8 pc8, .bool ol8] 55)) (g9 + 1) (.agg (hisC A8 n8 c8 mo8 at8 S8 sn8 sc8 P8 pn8 pc8 ol8)) (toH ⟨hl2, hmo2, hat2, hs2, hp2, ho2⟩ [] (hat2.toNat - farH (gI up k)))) := Lib.hid (fun h0 => by
                   obtain ⟨h1, h2, h3, h4, h5⟩ := hx8 h0
                   exact ⟨h1.2, h2, h3, h4, (h5.ext (Ext.alloc _ _)).lower (show g9 + 1 ≤ wc.heap.size from hg5)⟩)
                 clear hx8 he8 hxe hkind hkind' b14 ha14
                 generalize w3.alloc (.cells #[.slice A8 n8 c8, .int .i64 mo8, .int .i64 at8, .slice S8 sn8 sc8, .slice P8 pn8 pc8, .bool ol8] 55) = WF at *
                 generalize w3.heap.size = g14 at *)
              | (have hxe := ha14.out.trans he8
                 have hFB := Lib.hid (st6_blk hb14 (.slice A8 n8 c8) (.int .i64 mo8) (.int .i64 at8) (.slice S8 sn8 sc8) (.slice P8 pn8 pc8) (.bool ol8))
                 have hFE := Lib.hid (st6_ext hxe (Nat.le_refl _) (.slice A8 n8 c8) (.int .i64 mo8) (.int .i64 at8) (.slice S8 sn8 sc8) (.slice P8 pn8 pc8) (.bool ol8))
                 have hg14 : g9 < wc.heap.size := hg5
                 have hFO : Hid (x8 = 0 → (farH (gI up k) : Int) ≤ hat2 ∧ mo8 = (toH ⟨hl2, hmo2, hat2, hs2, hp2, ho2⟩ [] (hat2.toNat - farH (gI up k))).most ∧ at8 = (toH ⟨hl2, hmo2, hat2, hs2, hp2, ho2⟩ [] (hat2.toNat - farH (gI up k))).at_ ∧ ol8 = (toH ⟨hl2, hmo2, hat2, hs2, hp2, ho2⟩ [] (hat2.toNat - farH (gI up k))).older ∧ HisO (st6 w3 wc.heap.size (.slice A8 n8 c8) (.int .i64 mo8) (.int .i64 at8) (.slice S8 sn8 sc8) (.slice P8 pn8 pc8) (.bool ol8)) (g9 + 1) (.agg (hisC A8 n8 c8 mo8 at8 S8 sn8 sc8 P8 pn8 pc8 ol8)) (toH ⟨hl2, hmo2, hat2, hs2, hp2, ho2⟩ [] (hat2.toNat - farH (gI up k)))) := Lib.hid (fun h0 => by
                   obtain ⟨h1, h2, h3, h4, h5⟩ := hx8 h0
                   exact ⟨h1.2, h2, h3, h4, (st6_his h5 (by simp) _ _ _ _ _ _).lower (by simp; omega)⟩)
                 clear hx8 he8 hxe hb14 d0 d1 d2 d3 d4 d5 f0 f1 f2 f3 f4 f5 b14 ha14
                 unfold st6 at hFB hFE hFO
                 generalize (((((w3.setCell ⟨wc.heap.size, 0, none⟩ (.slice A8 n8 c8)).setCell ⟨wc.heap.size, 1, none⟩ (.int .i64 mo8)).setCell ⟨wc.heap.size, 2, none⟩ (.int .i64 at8)).setCell ⟨wc.heap.size, 3, none⟩ (.slice S8 sn8 sc8)).setCell ⟨wc.heap.size, 4, none⟩ (.slice P8 pn8 pc8)).setCell ⟨wc.heap.size, 5, none⟩ (.bool ol8) = WF at *
                 generalize wc.heap.size = g14 at *)
              have hBF := Lib.hid (Blk.ext HB9.out hFE.out)
              have hOF := Lib.hid (Own.ext HO.out hFE.out)
              have hXF := Lib.hid (HX.out.trans hFE.out)
              have hAF := Lib.hid (HA.out.ext hFE.out)
              have hgF : g9 < WF.heap.size := hBF.out.lt
              clear HB9 HO HX HA k0 k1 k2 k3 k4 k5 j0 j1 j2 j3 j4 j5 hu1 hu2 hg5 HUp hFE
              by_cases hx0 : x8 = 0
              · obtain ⟨e1, e2, e3, e4, hHF⟩ := hFO.out hx0
                have hinv := Lib.hid (HI2.out.up e1)
                obtain ⟨q0, q1, q2, q3, q4, q5⟩ := cells6 hFB.out
                obtain ⟨k0, k1, k2, k3, k4, k5⟩ := cells6 hBF.out
                obtain ⟨f0, f1, f2, f3, f4, f5⟩ := frozen6 hBF.out
                have R1 : Hid (HisAt (st6 WF g9 (.slice A8 n8 c8) (.int .i64 mo8) (.int .i64 at8) (.slice S8 sn8 sc8) (.slice P8 pn8 pc8) (.bool ol8)) g9 (toH ⟨hl2, hmo2, hat2, hs2, hp2, ho2⟩ [] (hat2.toNat - farH (gI up k)))) := Lib.hid ⟨A8, n8, c8, S8, sn8, sc8, P8, pn8, pc8, by rw [← e2, ← e3, ← e4]; exact st6_blk hBF.out _ _ _ _ _ _, by rw [← e2, ← e3, ← e4]; exact st6_his hHF (Nat.lt_succ_self g9) _ _ _ _ _ _⟩
                have R2 := Lib.hid (st6_own hOF.out (Nat.lt_succ_self g9) (.slice A8 n8 c8) (.int .i64 mo8) (.int .i64 at8) (.slice S8 sn8 sc8) (.slice P8 pn8 pc8) (.bool ol8))
                have R3 := Lib.hid (st6_ext hXF.out hwg (.slice A8 n8 c8) (.int .i64 mo8) (.int .i64 at8) (.slice S8 sn8 sc8) (.slice P8 pn8 pc8) (.bool ol8))
                have R4 : g9 < (st6 WF g9 (.slice A8 n8 c8) (.int .i64 mo8) (.int .i64 at8) (.slice S8 sn8 sc8) (.slice P8 pn8 pc8) (.bool ol8)).heap.size := (st6_blk hBF.out _ _ _ _ _ _).lt
                have hxb : (x8 == 0) = true := by simpa using hx0
                unfold st6 at R1 R2 R3 R4
                clear e1 e2 e3 e4 hHF hx0 hFO hFB hBF hOF hXF hAF
                go_wp2_with fail
                go_roundw
                case rel => exact ⟨k + 1, T, m, tc, xs, _, by omega, by go_num, rfl, hmk1, R2, HV, Lib.hid (by rw [neL_snoc (by rw [HN.out]; exact hlt)]; exact hinv.out), R1, R3, R4⟩
                case measure => simp [intOf]; omega
              · have hxb : (x8 == 0) = false := by simpa using hx0
                clear hx0 hFO hFB hBF
                go_wp2_with fail
                go_roundw
                case rel => exact ⟨k + 1, T, m, tc, xs, _, by omega, by go_num, rfl, hmk1, hOF, HV, Lib.hid (by rw [neL_snoc (by rw [HN.out]; exact hlt)]; exact HI2.out), hAF, hXF, hgF⟩
                case measure => simp [intOf]; omega
    · obtain rfl : k = n := by omega
      obtain ⟨r, rfl⟩ : ∃ r : Nat, most = r := ⟨most.toNat, by omega⟩
      have hr50 : r ≤ 50 := by omega
      obtain ⟨A, n', c', S, sn, sc, P, pn, pc, hB9, hHis⟩ := HA.out
      obtain ⟨A0, n0, c0, S0, sn0, sc0, P0, pn0, pc0, he0, hHL, _⟩ := hHis.v
      simp [hisC] at he0
      obtain ⟨⟨e1, e2, e3⟩, _⟩ := he0
      subst e1; subst e2; subst e3
      have hVr := HV.out.ext HX.out
      have hxl := Own.len HO.out
      have hvl := hVr.len
      have hli := HH.out.2.2.2
      rw [hli] at hHL
      have hn' := hHL.len
      rw [lastN_len] at hn'
      have htc := Rd.ncap (Own.rd HO.out)
      have htm := Rd.nmax (Own.rd HO.out)
      unfold maxLen at htm
      rw [show ((r : Int)).toNat = r by omega] at hHL hn'
      have hll : (neL (ls.take k)).length = m := by omega
      rw [hll] at hn'
      obtain ⟨k0, _⟩ := cells6 hB9
      unfold lastN at hHL
      rw [hll] at hHL
      have hw1 : IntKind.i64.wrap ((m : Int) - (r : Int)) = (m : Int) - (r : Int) := IntWalk.i64_in _ (by omega)
      by_cases hmr : m ≤ r
      · have hrun : ∀ u : World, (Instr.slice 53 (.slice T m tc) (some (.int .i64 0)) none none).run Try.prog u = .ok (.slice (cutA T tc 0) m tc) u := fun u => by
          have := run_tailL T m tc 0 (by omega) u
          simpa using this
        have hTl : Lns wr (cutA T tc 0) m tc (neL (ls.take k)) := by
          have := Lns.tail (Own.rd HO.out) hVr (a := 0) (by omega)
          simpa using this
        obtain rfl : n' = m := by omega
        have hS := Lib.hid (sameL_ok (hHL.ext (Ext.drew wr)) (by
          rw [show n' - min n' r = 0 by omega, List.drop_zero]
          exact hTl.ext (Ext.drew wr)))
        have hz : (r < n') = False := by simp; omega
        have k0' : wr.drew.cell? ⟨g9, 0, none⟩ = some (.slice A n' c') := k0
        have hend := HX.out
        clear HO HV HH HA HX hB9 hHis hHL hVr hxl hvl hli hn' hll hTl hlt
        go_upto_region 22 with fail
        go_region_law (first
          | (refine step_callf rfl 34 #[.slice A n' c', .slice (cutA T tc 0) n' tc] rfl (by kernel_rfl) (fun v w' => v = .bool true ∧ Ext wr.drew w') (hS.out.mono fun e w' hg => ⟨_, hg.1, rfl, hg.2⟩) ?_
             rintro v w3 ⟨rfl, he8⟩))
        all_goals
          have hend2 := hend.trans ((Ext.drew wr).trans he8)
          go_simp
          go_wp2_with fail
          go_ret
          exact ⟨rfl, hend2⟩
      · have hrm : r < m := by omega
        obtain ⟨lo, hlo⟩ : ∃ lo, lo = m - r := ⟨_, rfl⟩
        have hlm : lo ≤ m := by omega
        have hln : n' = m - lo := by omega
        have hTl := Lns.tail (Own.rd HO.out) hVr hlm
        have hS : Hid (Calls Try.prog 34 #[.slice A n' c', .slice (if tc = lo then T else Option.map (fun x => x.add lo) T) (m - lo) (tc - lo)] wr.drew fun e w' => e = .returned (.bool true) ∧ Ext wr.drew w') := Lib.hid (by
          have h1 := hHL.ext (Ext.drew wr)
          rw [show m - min m r = lo by omega, hln] at h1
          rw [hln]
          exact sameL_ok h1 (hTl.ext (Ext.drew wr)))
        have hz : (m : Int) - (r : Int) = (lo : Int) := by omega
        have hlo0 : 0 < lo := by omega
        have k0' : wr.drew.cell? ⟨g9, 0, none⟩ = some (.slice A n' c') := k0
        have hend := HX.out
        rw [hz] at hw1
        clear HO HV HH HA HX hB9 hHis hHL hVr hxl hvl hli hn' hll hTl hlt hln hmr hlo
        go_upto_region 22 with fail
        go_region_law (first
          | (refine step_callf rfl 34 #[.slice A n' c', .slice (if tc = lo then T else Option.map (fun x => x.add lo) T) (m - lo) (tc - lo)] rfl (by kernel_rfl) (fun v w' => v = .bool true ∧ Ext wr.drew w') (hS.out.mono fun e w' hg => ⟨_, hg.1, rfl, hg.2⟩) ?_
             rintro v w3 ⟨rfl, he8⟩))
        all_goals
          have hend2 := hend.trans ((Ext.drew wr).trans he8)
          go_simp
          go_wp2_with fail
          go_ret
          exact ⟨rfl, hend2⟩
end Go.Proofs.Ytbhbakejpgndmaa
