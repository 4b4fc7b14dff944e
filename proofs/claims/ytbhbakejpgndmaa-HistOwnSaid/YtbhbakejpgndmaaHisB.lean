/-
  The walk of HistBack.
-/
import Derived.Test.YtbhbakejpgndmaaHisU
import Derived.Test.YtbhbakejpgndmaaEq
import Derived.Test.YtbhbakejpgndmaaLib
namespace Go.Proofs.Ytbhbakejpgndmaa
open Go.RowKit
set_option linter.unusedVariables false
set_option linter.unusedSimpArgs false

theorem long_iff {h : Hi} : ¬ h.long ↔ (∀ i, i < h.lines.length → (gL h.lines i).length ≤ 200) ∧ h.scratch.length ≤ 200 ∧ h.pattern.length ≤ 200 := by
  constructor
  · intro hn
    have hl : h.all.length = h.lines.length + 2 := by unfold Hi.all; simp
    have key : ∀ i, i < h.lines.length + 2 → (gL h.all i).length ≤ 200 := fun i hi => by
      rcases Nat.lt_or_ge 200 (gL h.all i).length with h1 | h1
      · exact absurd ⟨i, by omega, h1⟩ hn
      · exact h1
    refine ⟨fun i hi => ?_, ?_, ?_⟩
    · have := key i (by omega)
      unfold gL Hi.all at this
      rw [List.getElem?_append_left hi] at this
      exact this
    · have := key h.lines.length (by omega)
      unfold gL Hi.all at this
      rw [List.getElem?_append_right (Nat.le_refl _), Nat.sub_self] at this
      exact this
    · have := key (h.lines.length + 1) (by omega)
      unfold gL Hi.all at this
      rw [List.getElem?_append_right (by omega), show h.lines.length + 1 - h.lines.length = 1 by omega] at this
      exact this
  · rintro ⟨h1, h2, h3⟩ ⟨i, hi, hl⟩
    unfold gL Hi.all at hl
    unfold Hi.all at hi
    simp only [List.length_append, List.length_cons, List.length_nil] at hi
    rcases Nat.lt_or_ge i h.lines.length with hlt | hge
    · rw [List.getElem?_append_left hlt] at hl
      have := h1 i hlt
      unfold gL at this
      omega
    · have : i = h.lines.length ∨ i = h.lines.length + 1 := by omega
      rcases this with rfl | rfl
      · rw [List.getElem?_append_right (Nat.le_refl _), Nat.sub_self] at hl
        simp at hl
        omega
      · rw [List.getElem?_append_right (by omega), show h.lines.length + 1 - h.lines.length = 1 by omega] at hl
        simp at hl
        omega
theorem toS_len {h : Hi} {now : List Int} (hl : ¬ h.long) (hn : now.length ≤ 200) : (toS h now).length ≤ 200 := by
  unfold toS
  split
  · exact hn
  · exact (long_iff.1 hl).2.1
theorem toL_len {h : Hi} {now : List Int} {k : Nat} (hl : ¬ h.long) (hn : now.length ≤ 200) (hk : k ≤ h.lines.length) : (toL h now k).length ≤ 200 := by
  unfold toL
  split
  · exact toS_len hl hn
  · exact (long_iff.1 hl).1 k (by omega)
theorem far_pos (k : Int) : 1 ≤ farH k := by unfold farH; omega
/-- Up and as far down again. -/
theorem back_good {h : Hi} {now : List Int} {k : Int} (hg : Good h now k) (hf : (farH k : Int) ≤ h.at_) :
    Good (toH h now (h.at_.toNat - farH k)) (toL h now (h.at_.toNat - farH k)) k ∧ (farH k : Int) + (toH h now (h.at_.toNat - farH k)).at_ ≤ ((toH h now (h.at_.toNat - farH k)).lines.length : Int) := by
  obtain ⟨g1, g2, g3, g4, g5⟩ := hg
  have hb := g1
  unfold Hi.bad at hb
  have hp := far_pos k
  refine ⟨⟨?_, ?_, toL_len g2 g3 (by omega), g4, g5⟩, ?_⟩
  · unfold Hi.bad toH
    simp only
    omega
  · rw [long_iff]
    obtain ⟨l1, l2, l3⟩ := long_iff.1 g2
    exact ⟨l1, toS_len g2 g3, l3⟩
  · unfold toH
    simp only
    omega
theorem back_line {h : Hi} {now : List Int} {k : Int} (hg : Good h now k) (hf : (farH k : Int) ≤ h.at_) :
    (toH h now (h.at_.toNat - farH k)).at_.toNat + farH k = h.at_.toNat ∧
    toL (toH h now (h.at_.toNat - farH k)) (toL h now (h.at_.toNat - farH k)) h.at_.toNat = if h.at_ = (h.lines.length : Int) then now else gL h.lines h.at_.toNat := by
  obtain ⟨g1, _⟩ := hg
  have hb := g1
  unfold Hi.bad at hb
  have hp := far_pos k
  refine ⟨by unfold toH; simp only; omega, ?_⟩
  unfold toL toH
  simp only
  by_cases hat : h.at_ = (h.lines.length : Int)
  · rw [if_pos (by omega), if_pos hat]
    unfold toS
    simp only
    rw [if_neg (by omega), if_pos hat]
  · rw [if_neg (by omega), if_neg hat]
def pastH : Hi := ⟨[chars ⟨#[111, 110, 101]⟩, chars ⟨#[116, 119, 111]⟩], 5, 2, [], [], false⟩
theorem past_good : Good pastH (chars ⟨#[120]⟩) 2 ∧ (farH 2 : Int) ≤ pastH.at_ := by
  refine ⟨⟨by unfold Hi.bad pastH; simp, ?_, by decide, by omega, by omega⟩, by decide⟩
  rw [long_iff]
  refine ⟨fun i hi => ?_, by decide, by decide⟩
  have hi2 : i < 2 := hi
  have : i = 0 ∨ i = 1 := by omega
  rcases this with rfl | rfl <;> decide
theorem past_at : toL pastH (chars ⟨#[120]⟩) (pastH.at_.toNat - farH 2) = chars ⟨#[111, 110, 101]⟩ ∧ pastH.at_.toNat - farH 2 = 0 := by
  refine ⟨by rfl, by rfl⟩

theorem st6_ownne {w : World} {g base e' z n cc : Nat} {A : Option Addr} {xs : List Value} (h : Own w base e' z A n cc xs) (hg : (Value.slice A n cc).ownBlock ≠ some g) (a b c d e f : Value) : Own (st6 w g a b c d e f) base e' z A n cc xs :=
  (((((h.setCell_ne (p := ⟨g, 0, none⟩) hg a).setCell_ne (p := ⟨g, 1, none⟩) hg b).setCell_ne (p := ⟨g, 2, none⟩) hg c).setCell_ne (p := ⟨g, 3, none⟩) hg d).setCell_ne (p := ⟨g, 4, none⟩) hg e).setCell_ne (p := ⟨g, 5, none⟩) hg f
theorem Rd.set_ne {w : World} {z n cc : Nat} {ad : Addr} {xs : List Value} (h : Rd w z (some ad) n cc xs) {p : Addr} (hp : p.block ≠ ad.block) (u : Value) : Rd (w.setCell p u) z (some ad) n cc xs := by
  obtain ⟨h1, h2, h3, h4⟩ := h
  refine ⟨h1, h2, h3, fun hn => ?_⟩
  obtain ⟨ad', e, hc⟩ := h4 hn
  injection e with e
  subst e
  refine ⟨ad, rfl, fun j v hv => ?_⟩
  have := hc j v hv
  rw [← this]
  refine World.cell?_of_block ?_
  unfold World.setCell
  rw [Array.getElem?_modify, if_neg (by rw [block_of_add]; exact hp)]
theorem st6_rd {w : World} {g z n cc : Nat} {ad : Addr} {xs : List Value} (h : Rd w z (some ad) n cc xs) (hg : g ≠ ad.block) (a b c d e f : Value) : Rd (st6 w g a b c d e f) z (some ad) n cc xs :=
  (((((h.set_ne (p := ⟨g, 0, none⟩) hg a).set_ne (p := ⟨g, 1, none⟩) hg b).set_ne (p := ⟨g, 2, none⟩) hg c).set_ne (p := ⟨g, 3, none⟩) hg d).set_ne (p := ⟨g, 4, none⟩) hg e).set_ne (p := ⟨g, 5, none⟩) hg f
theorem LnV.nil (w : World) : LnV w [] [] := ⟨rfl, fun i hi => absurd hi (by simp)⟩

set_option maxRecDepth 20000 in
set_option maxHeartbeats 4000000 in
theorem past_ok (w : World) : Calls Try.prog 29 #[] w fun e w' => ∃ u, e = .returned u ∧ HisV w' u pastH ∧ Ext w w' := by
  have HOf1 := fun w => Lib.hid (of_ok ⟨#[111, 110, 101]⟩ w (by decide))
  have HOf2 := fun w => Lib.hid (of_ok ⟨#[116, 119, 111]⟩ w (by decide))
  go_enter Try.func29, Try.ntmps29
  go_wp2_with fail
  refine ((HOf1 _).out).mono ?_
  rintro e w1 ⟨A1, c1, rfl, o1, he1⟩
  go_wp2_with fail
  refine ((HOf2 _).out).mono ?_
  rintro e w2 ⟨A2, c2, rfl, o2, he2⟩
  have b0 := Blk.ext (Blk.ext (Blk.new w 55 hisZ) he1) he2
  have hx2 := ((Ext.alloc w (.cells hisZ 55)).trans he1).trans he2
  have I1 := o1.ints.ext he2
  have I2 := o2.ints
  have n1 := Own.nocap o1
  have n2 := Own.nocap o2
  have b1 := b0.ext (Ext.alloc w2 (.cells #[.slice A1 3 c1, .slice A2 3 c2] 22))
  obtain ⟨d0, d1, d2, d3, d4, d5⟩ := cells6 b1
  obtain ⟨f0, f1, f2, f3, f4, f5⟩ := frozen6 b1
  have hS : Rd (w2.alloc (.cells #[.slice A1 3 c1, .slice A2 3 c2] 22)) 1 (some ⟨w2.heap.size, 0, none⟩) 2 2 [.slice A1 3 c1, .slice A2 3 c2] := Rd.litAt w2 22 [.slice A1 3 c1, .slice A2 3 c2] rfl rfl (by omega)
  have hV : LnV (w2.alloc (.cells #[.slice A1 3 c1, .slice A2 3 c2] 22)) [.slice A1 3 c1, .slice A2 3 c2] [chars ⟨#[111, 110, 101]⟩, chars ⟨#[116, 119, 111]⟩] :=
    LnV.two (LnV.nil _) ⟨A1, 3, c1, rfl, I1.ext (Ext.alloc _ _), n1, by omega⟩ ⟨A2, 3, c2, rfl, I2.ext (Ext.alloc _ _), n2, by omega⟩
  have hlt := b0.lt
  have hxw : Ext w2 (st6 (w2.alloc (.cells #[.slice A1 3 c1, .slice A2 3 c2] 22)) w.heap.size (.slice (some ⟨w2.heap.size, 0, none⟩) 2 2) (.int .i64 5) (.int .i64 2) (.slice none 0 0) (.slice none 0 0) (.bool false)) ∨ True := .inr trivial
  have hne : w.heap.size ≠ w2.heap.size := by omega
  have HRd := Lib.hid (st6_rd hS hne (.slice (some ⟨w2.heap.size, 0, none⟩) 2 2) (.int .i64 5) (.int .i64 2) (.slice none 0 0) (.slice none 0 0) (.bool false))
  have HX := Lib.hid (st6_ext (hx2.to_alloc (.cells #[.slice A1 3 c1, .slice A2 3 c2] 22)) (Nat.le_refl _) (.slice (some ⟨w2.heap.size, 0, none⟩) 2 2) (.int .i64 5) (.int .i64 2) (.slice none 0 0) (.slice none 0 0) (.bool false))
  have hb1 : ∀ g, (Value.slice A1 3 c1).ownBlock = some g → g ≠ w.heap.size := fun g hg => by have := (Own.blk o1 g hg).1; simp at this; omega
  have hb2 : ∀ g, (Value.slice A2 3 c2).ownBlock = some g → g ≠ w.heap.size := fun g hg => by have := (Own.blk o2 g hg).1; have := he1.hsize; simp at this; omega
  have J1 := st6_ownne (o1.ext (he2.trans (Ext.alloc w2 (.cells #[.slice A1 3 c1, .slice A2 3 c2] 22)))) (g := w.heap.size) (fun e => hb1 _ e rfl) (.slice (some ⟨w2.heap.size, 0, none⟩) 2 2) (.int .i64 5) (.int .i64 2) (.slice none 0 0) (.slice none 0 0) (.bool false)
  have J2 := st6_ownne (o2.ext (Ext.alloc w2 (.cells #[.slice A1 3 c1, .slice A2 3 c2] 22))) (g := w.heap.size) (fun e => hb2 _ e rfl) (.slice (some ⟨w2.heap.size, 0, none⟩) 2 2) (.int .i64 5) (.int .i64 2) (.slice none 0 0) (.slice none 0 0) (.bool false)
  have HVal : Hid (HisV (st6 (w2.alloc (.cells #[.slice A1 3 c1, .slice A2 3 c2] 22)) w.heap.size (.slice (some ⟨w2.heap.size, 0, none⟩) 2 2) (.int .i64 5) (.int .i64 2) (.slice none 0 0) (.slice none 0 0) (.bool false)) (.agg (hisC (some ⟨w2.heap.size, 0, none⟩) 2 2 5 2 none 0 0 none 0 0 false)) pastH) := Lib.hid
    ⟨some ⟨w2.heap.size, 0, none⟩, 2, 2, none, 0, 0, none, 0, 0, rfl, ⟨_, HRd.out, LnV.two (LnV.nil _) ⟨A1, 3, c1, rfl, OwnI.ints J1, n1, by omega⟩ ⟨A2, 3, c2, rfl, OwnI.ints J2, n2, by omega⟩⟩, nofun, ⟨none, 0, 0, rfl, Ints.none_ _, fun _ => rfl, by omega⟩, ⟨none, 0, 0, rfl, Ints.none_ _, fun _ => rfl, by omega⟩⟩
  have hfin := Lib.hid (st6_blk b1 (.slice (some ⟨w2.heap.size, 0, none⟩) 2 2) (.int .i64 5) (.int .i64 2) (.slice none 0 0) (.slice none 0 0) (.bool false))
  have q1 : ¬ w.heap.size = w2.heap.size := hne
  have q2 : ¬ w2.heap.size = w.heap.size := fun e => hne e.symm
  clear b0 hx2 I1 I2 b1 hS hV hxw hne HRd hb1 hb2 J1 J2 o1 o2 n1 n2 he1 he2 HOf1 HOf2
  unfold st6 at HX HVal hfin
  iterate 7 (first | go_values | go_skip | go_guarded | go_step | go_upon | go_back | (simp only [Int.not_lt, Int.not_le] at *; go_simp))
  generalize w2.alloc (.cells #[.slice A1 3 c1, .slice A2 3 c2] 22) = W at *
  go_wp2_with fail
  refine bodyPost_ret (v := .agg (hisC (some ⟨w2.heap.size, 0, none⟩) 2 2 5 2 none 0 0 none 0 0 false)) ?_ rfl ⟨_, rfl, HVal.out, HX.out⟩
  exact results_cell_row rfl _ _ w.heap.size 55 _ _ _ rfl hfin.out Try.underlying55 rfl (hist_size rfl)

set_option maxRecDepth 100000 in
set_option maxHeartbeats 8000000 in
theorem histBack_walk {w : World} {v : Value} {h : Hi} {N : Option Addr} {q y : Nat} {now : List Int} {k : Int} (hv : HisV w v h) (hnow : Ints w N q y now) (hN : N = none → y = 0) :
    Calls Try.prog 6 #[v, .slice N q y, .int .i64 k] w fun e w' => e = .returned (.bool true) ∧ Ext w w' := by
  have HV := Lib.hid hv
  obtain ⟨A, n, c, S, sn, sc, P, pn, pc, rfl, hn, hnm⟩ := hv.cells
  obtain ⟨ls, mo, at_, sl, pl, ol⟩ := h
  simp only at hn
  have HN := Lib.hid hn
  have HNow := Lib.hid hnow
  have hb0 := Lib.hid (Blk.new w 55 (hisC A n c mo at_ S sn sc P pn pc ol))
  have hx0 := Lib.hid (Ext.alloc w (.cells (hisC A n c mo at_ S sn sc P pn pc ol) 55))
  have HPa := fun w => Lib.hid (past_ok w)
  have HOf := fun w => Lib.hid (of_ok ⟨#[120]⟩ w (by decide))
  have HOf1 := fun w => Lib.hid (of_ok ⟨#[111, 110, 101]⟩ w (by decide))
  clear hv hn hnow
  unfold maxLen at hnm
  unfold hisC at *
  go_enter Try.func6, Try.ntmps6
  go_wp2_with fail
  refine ((HPa _).out).mono ?_
  rintro e w1 ⟨u, rfl, hpv, he1⟩
  have hx1 := Lib.hid (hx0.out.trans he1)
  have B3 := Lib.hid (Blk.ext hb0.out he1)
  have HPv := Lib.hid hpv
  clear HPa hx0 hb0 he1 hpv
  go_wp2_with fail
  refine ((HOf _).out).mono ?_
  rintro e w2 ⟨A2, c2, rfl, o2, he2⟩
  have hx2 := Lib.hid (hx1.out.trans he2)
  have B32 := Lib.hid (Blk.ext B3.out he2)
  have HU := Lib.hid (up_ok (k := 2) (HPv.out.ext he2) o2.ints (Own.nocap o2))
  clear HOf hx1 B3 o2 he2 HPv
  go_wp2_with fail
  refine HU.out.mono ?_
  rintro e w3 ⟨he3, hgo⟩
  rcases hgo with ⟨_, u3, L, m, z, rfl, hO3, hL3, hL03⟩ | ⟨hno, _⟩
  case inr => exact absurd past_good hno
  rw [past_at.1] at hL3
  rw [past_at.2] at hO3
  obtain ⟨A3, n3, c3, S3, sn3, sc3, P3, pn3, pc3, rfl, _⟩ := hO3
  have hx3 := Lib.hid (hx2.out.trans he3)
  have B33 := Lib.hid (Blk.ext B32.out he3)
  have I3 := Lib.hid hL3.ints
  have hm3 : m = 3 := by have := hL3.ints.len; rw [← this]; decide
  subst hm3
  unfold hisC
  simp only [toH, pastH]
  clear HU hx2 B32 hL3 hL03 he3
  go_upto_region 2 with fail
  have b7 := Blk.new w3 55 #[.slice A3 n3 c3, .int .i64 5, .int .i64 0, .slice S3 sn3 sc3, .slice P3 pn3 pc3, .bool false]
  have hxa := Ext.alloc w3 (.cells #[.slice A3 n3 c3, .int .i64 5, .int .i64 0, .slice S3 sn3 sc3, .slice P3 pn3 pc3, .bool false] 55)
  change Code.wp _ _ _ _ (w3.alloc (.cells #[.slice A3 n3 c3, .int .i64 5, .int .i64 0, .slice S3 sn3 sc3, .slice P3 pn3 pc3, .bool false] 55))
  generalize w3.alloc (.cells #[.slice A3 n3 c3, .int .i64 5, .int .i64 0, .slice S3 sn3 sc3, .slice P3 pn3 pc3, .bool false] 55) = W at *
  generalize w3.heap.size = g7 at *
  have hx4 := Lib.hid (hx3.out.trans hxa)
  have B34 := Lib.hid (Blk.ext B33.out hxa)
  have I4 := Lib.hid (I3.out.ext hxa)
  have B7 := Lib.hid b7
  clear hx3 B33 I3 b7 hxa
  go_wp2_with fail
  refine ((HOf1 _).out).mono ?_
  rintro e w4 ⟨A4, c4, rfl, o4, he4⟩
  have HQ := Lib.hid (equal_ext (I4.out.ext he4) o4.ints)
  rw [eqB_true.2 rfl] at HQ
  have HE4 := Lib.hid he4
  clear HOf1 o4 he4 I4
  go_wp2_with fail
  refine HQ.out.mono ?_
  rintro e w5 ⟨rfl, he5⟩
  have he45 := HE4.out.trans he5
  have hx5 := Lib.hid (hx4.out.trans he45)
  have B35 := Lib.hid (Blk.ext B34.out he45)
  obtain ⟨_, _, u2, _⟩ := cells6 (Blk.ext B7.out he45)
  obtain ⟨k0, k1, k2, k3, k4, k5⟩ := cells6 B35.out
  have HU := Lib.hid (up_ok (k := k) (HV.out.ext hx5.out) (HNow.out.ext hx5.out) hN)
  clear HQ HE4 he5 he45 hx4 B34 B7
  go_wp2_with fail
  refine HU.out.mono ?_
  rintro e w6 ⟨he6, hgo⟩
  have hx6 := Lib.hid (hx5.out.trans he6)
  have B36 := Lib.hid (Blk.ext B35.out he6)
  clear HU hx5 B35 k0 k1 k2 k3 k4 k5 u2
  rcases hgo with ⟨hok, u6, L, m, z, rfl, hO6, hL6, hL06⟩ | ⟨_, x, rfl, hx⟩
  case inr =>
    have hxb : (x != 0) = true := by simpa using hx
    have hend := hx6.out
    clear hx HV HN HNow hx6 B36
    unfold hisZ
    go_wp2_with fail
    go_ret
    exact ⟨rfl, hend.to_alloc _⟩
  case inl =>
    have Hok := Lib.hid hok
    obtain ⟨a, rfl⟩ : ∃ a : Nat, at_ = a := ⟨at_.toNat, by
      have := hok.1.1
      unfold Hi.bad at this
      simp only at this
      omega⟩
    obtain ⟨hb1, hb2⟩ := back_line hok.1 hok.2
    have hbg := back_good hok.1 hok.2
    have han : a ≤ n := by
      have := hok.1.1
      unfold Hi.bad at this
      simp only at this
      rw [HN.out] at this
      omega
    simp only at hb1 hb2 hbg hO6 hL6
    rw [HN.out] at hb2
    generalize (a : Int).toNat - farH k = j at *
    generalize hhh : toH ⟨ls, mo, (a : Int), sl, pl, ol⟩ now j = h2 at *
    generalize toL ⟨ls, mo, (a : Int), sl, pl, ol⟩ now j = l2 at *
    have hv6 := hO6.v
    obtain ⟨A6, n6, c6, S6, sn6, sc6, P6, pn6, pc6, rfl, _⟩ := hO6
    have HD : Hid (∀ wq, Ext w6 wq → Calls Try.prog 31 #[.agg (hisC A6 n6 c6 h2.most h2.at_ S6 sn6 sc6 P6 pn6 pc6 h2.older), .slice L m z, .int .i64 k] wq (Goes (Good h2 l2 k ∧ (farH k : Int) + h2.at_ ≤ (h2.lines.length : Int)) h2 l2 (h2.at_.toNat + farH k) wq)) := Lib.hid (fun wq he => down_ok (hv6.ext he) (hL6.ints.ext he) hL06)
    have Hbg := Lib.hid hbg
    have Hb1 : Hid (h2.at_.toNat + farH k = a) := Lib.hid (by simpa using hb1)
    have Hb2 : Hid (toL h2 l2 a = if (a : Int) = (n : Int) then now else gL ls a) := Lib.hid (by simpa using hb2)
    rw [Hb1.out] at HD
    have HX7 := Lib.hid (Ext.alloc w6 (.cells (hisC A6 n6 c6 h2.most h2.at_ S6 sn6 sc6 P6 pn6 pc6 h2.older) 55))
    clear hbg hb1 hb2 hhh hok hv6 hL6 hL06 he6
    generalize h2.most = mo2 at *
    generalize h2.at_ = at2 at *
    generalize h2.older = ol2 at *
    unfold hisC at *
    go_wp2_with fail
    refine (HD.out _ HX7.out).mono ?_
    rintro e w8 ⟨he8, hgo⟩
    rcases hgo with ⟨_, u8, L8, m8, z8, rfl, hO8, hL8, _⟩ | ⟨hno, _⟩
    case inr => exact absurd Hbg.out hno
    case inl =>
      obtain ⟨A8, n8, c8, S8, sn8, sc8, P8, pn8, pc8, rfl, _⟩ := hO8
      rw [Hb2.out] at hL8
      have hx8 := Lib.hid ((hx6.out.trans HX7.out).trans he8)
      have B38 := Lib.hid (Blk.ext (Blk.ext B36.out HX7.out) he8)
      have hI8 := Lib.hid hL8.ints
      clear HD HX7 hx6 B36 Hbg Hb1 Hb2 he8 hL8
      unfold hisC
      simp only [toH]
      generalize h2.most = mo3 at *
      generalize h2.older = ol3 at *
      go_upto_region 8 with fail
      have hxa := Ext.alloc w8 (.cells #[.slice A8 n8 c8, .int .i64 mo3, .int .i64 (a : Int), .slice S8 sn8 sc8, .slice P8 pn8 pc8, .bool ol3] 55)
      have b13 := Blk.new w8 55 #[.slice A8 n8 c8, .int .i64 mo3, .int .i64 (a : Int), .slice S8 sn8 sc8, .slice P8 pn8 pc8, .bool ol3]
      change Code.wp _ _ _ _ (w8.alloc (.cells #[.slice A8 n8 c8, .int .i64 mo3, .int .i64 (a : Int), .slice S8 sn8 sc8, .slice P8 pn8 pc8, .bool ol3] 55))
      generalize w8.alloc (.cells #[.slice A8 n8 c8, .int .i64 mo3, .int .i64 (a : Int), .slice S8 sn8 sc8, .slice P8 pn8 pc8, .bool ol3] 55) = W8 at *
      obtain ⟨k0, k1, k2, k3, k4, k5⟩ := cells6 (Blk.ext B38.out hxa)
      obtain ⟨_, _, u2, _⟩ := cells6 b13
      have hx9 := Lib.hid (hx8.out.trans hxa)
      have hI9 := Lib.hid (hI8.out.ext hxa)
      have hL : Hid (Lns w A n c ls) := Lib.hid (by
        obtain ⟨_, _, _, _, _, _, _, _, _, he, hL, _⟩ := HV.out
        simp [hisC] at he
        obtain ⟨⟨rfl, rfl, rfl⟩, _⟩ := he
        exact hL)
      clear hx8 hI8 B38 hxa b13 HV Hok
      generalize w8.heap.size = g13 at *
      by_cases hat : a = n
      · subst hat
        have HQ := Lib.hid (equal_ext hI9.out (HNow.out.ext hx9.out))
        rw [if_pos rfl, eqB_true.2 rfl] at HQ
        clear hL hI9 HNow
        go_wp2_with fail
        refine HQ.out.mono ?_
        rintro e w9 ⟨rfl, he9⟩
        have hend := hx9.out.trans he9
        clear HQ hx9 he9
        go_wp2_with fail
        go_ret
        exact ⟨rfl, hend⟩
      · have han2 : a < n := by omega
        have hab : ((a : Int) == (n : Int)) = false := by simp; omega
        obtain ⟨ad, v, rfl, hc, B7, m7, c7, rfl, hI7, _⟩ := (hL.out.ext hx9.out).at_ han2
        have HQ := Lib.hid (equal_ext hI9.out hI7)
        rw [if_neg (by omega), eqB_true.2 rfl] at HQ
        clear hL hI9 HNow hI7
        go_wp2_with fail
        refine HQ.out.mono ?_
        rintro e w9 ⟨rfl, he9⟩
        have hend := hx9.out.trans he9
        clear HQ hx9 he9
        go_wp2_with fail
        go_ret
        exact ⟨rfl, hend⟩
end Go.Proofs.Ytbhbakejpgndmaa
