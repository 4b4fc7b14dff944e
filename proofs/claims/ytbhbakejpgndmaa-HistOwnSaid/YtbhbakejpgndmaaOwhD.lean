/-
  The walk of the statement that histories and lines that are handed in stay: its first part.
-/
import Derived.Test.YtbhbakejpgndmaaOwhC
namespace Go.Proofs.Ytbhbakejpgndmaa
open Go.RowKit
set_option linter.unusedVariables false
set_option linter.unusedSimpArgs false

theorem HisO.shape {w : World} {b : Nat} {u : Value} {h : Hi} (hh : HisO w b u h) : ∃ (A : Option Addr) (n c : Nat) (mo at_ : Int) (S : Option Addr) (sn sc : Nat) (P : Option Addr) (pn pc : Nat) (ol : Bool), u = .agg #[.slice A n c, .int .i64 mo, .int .i64 at_, .slice S sn sc, .slice P pn pc, .bool ol] := by
  obtain ⟨A, n, c, S, sn, sc, P, pn, pc, e, _⟩ := hh
  exact ⟨A, n, c, _, _, S, sn, sc, P, pn, pc, _, e⟩
theorem past_add : AOk pastH (chars ⟨#[120]⟩) ∧ (addH pastH (chars ⟨#[120]⟩)).lines.length = 3 :=
  ⟨⟨past_good.1.1, past_good.1.2.1, by decide⟩, by decide⟩

set_option maxRecDepth 20000 in
set_option maxHeartbeats 4000000 in
theorem histOwn_walk {w : World} {v : Value} {h : Hi} {N : Option Addr} {q y : Nat} {now : List Int} {k : Int} (hv : HisV w v h) (hb1 : ∀ i, i < h.lines.length → (gL h.lines i).length * 8 ≤ 140737488351232) (hb2 : h.scratch.length * 8 ≤ 140737488351232) (hb3 : h.pattern.length * 8 ≤ 140737488351232) (hb4 : h.lines.length * 24 ≤ 140737488351232)
    (hnow : Ints w N q y now) (hN : N = none → y = 0) (hqn : q * 8 ≤ 140737488351232) :
    Calls Try.prog 10 #[v, .slice N q y, .int .i64 k] w fun e w' => e = .returned (.bool true) ∧ Ext w w' := by
  have HV := Lib.hid hv
  obtain ⟨A, n, c, S, sn, sc, P, pn, pc, rfl, hn, hnm⟩ := hv.cells
  have HN := Lib.hid hn
  have HB1 := Lib.hid hb1
  have HB2 := Lib.hid hb2
  have HB3 := Lib.hid hb3
  have HB4 := Lib.hid hb4
  have HNow := Lib.hid hnow
  have HQ := Lib.hid hqn
  have HOf := fun w => Lib.hid (of_ok ⟨#[120]⟩ w (by decide))
  have HPa := fun w => Lib.hid (past_ok w)
  have hbx := Lib.hid (Blk.new w 55 (hisC A n c h.most h.at_ S sn sc P pn pc h.older))
  have hx0 := Lib.hid (Ext.alloc w (.cells (hisC A n c h.most h.at_ S sn sc P pn pc h.older) 55))
  clear hv hb1 hb2 hb3 hb4 hnow hqn hn hnm
  unfold hisC at *
  go_enter Try.func10, Try.ntmps10
  go_wp2_with fail
  refine ((HPa _).out).mono ?_
  rintro e w1 ⟨u, rfl, hpv, he1⟩
  have hx1 := Lib.hid (hx0.out.trans he1)
  have B3 := Lib.hid (Blk.ext hbx.out he1)
  have HPv := Lib.hid hpv
  clear HPa hx0 hbx he1 hpv
  go_wp2_with fail
  refine ((HOf _).out).mono ?_
  rintro e w2 ⟨A2, c2, rfl, o2, he2⟩
  have hx2 := Lib.hid (hx1.out.trans he2)
  have B32 := Lib.hid (Blk.ext B3.out he2)
  have HU := Lib.hid (add_ok (HPv.out.ext he2) o2.ints (Own.nocap o2))
  clear HOf hx1 B3 o2 he2 HPv
  go_wp2_with fail
  refine HU.out.mono ?_
  rintro e w3 ⟨he3, hgo⟩
  rcases hgo with ⟨_, u3, rfl, hO3⟩ | ⟨hno, _⟩
  case inr => exact absurd past_add.1 hno
  obtain ⟨A3, n3, c3, S3, sn3, sc3, P3, pn3, pc3, rfl, hO3, _⟩ := hO3
  have hx3 := Lib.hid (hx2.out.trans he3)
  have B33 := Lib.hid (Blk.ext B32.out he3)
  have hm3 : n3 = 3 := by have := hO3.lns.len; rw [← this]; exact past_add.2
  subst hm3
  clear HU hx2 B32 he3 hO3
  unfold hisC
  generalize (addH pastH (chars ⟨#[120]⟩)).most = m3
  generalize (addH pastH (chars ⟨#[120]⟩)).at_ = a3
  generalize (addH pastH (chars ⟨#[120]⟩)).older = o3
  go_upto_region 4 with fail
  have hx4 := Lib.hid (hx3.out.to_alloc (.cells #[.slice A3 3 c3, .int .i64 m3, .int .i64 a3, .slice S3 sn3 sc3, .slice P3 pn3 pc3, .bool o3] 55))
  have B34 := Lib.hid (Blk.ext B33.out (Ext.alloc w3 (.cells #[.slice A3 3 c3, .int .i64 m3, .int .i64 a3, .slice S3 sn3 sc3, .slice P3 pn3 pc3, .bool o3] 55)))
  change Code.wp _ _ _ _ (w3.alloc (.cells #[.slice A3 3 c3, .int .i64 m3, .int .i64 a3, .slice S3 sn3 sc3, .slice P3 pn3 pc3, .bool o3] 55))
  clear hx3 B33
  generalize w3.alloc (.cells #[.slice A3 3 c3, .int .i64 m3, .int .i64 a3, .slice S3 sn3 sc3, .slice P3 pn3 pc3, .bool o3] 55) = w4 at hx4 B34 ⊢
  obtain ⟨k0, k1, k2, k3, k4, k5⟩ := cells6 B34.out
  have j0 : (w4.alloc (.cells #[.slice none 0 0, .int .i64 h.most, .int .i64 h.at_, .slice S sn sc, .slice P pn pc, .bool h.older] 55)).cell? ⟨w.heap.size, 0, none⟩ = some (.slice A n c) := (Ext.alloc _ _).cell k0
  go_wp2_with fail
  have Hb0 : Hid (Blk (w4.alloc (.cells #[.slice none 0 0, .int .i64 h.most, .int .i64 h.at_, .slice S sn sc, .slice P pn pc, .bool h.older] 55)) w4.heap.size 55 #[.slice none 0 0, .int .i64 h.most, .int .i64 h.at_, .slice S sn sc, .slice P pn pc, .bool h.older]) := Lib.hid (Blk.new w4 _ _)
  have Hx0 := Lib.hid (hx4.out.to_alloc (.cells #[.slice none 0 0, .int .i64 h.most, .int .i64 h.at_, .slice S sn sc, .slice P pn pc, .bool h.older] 55))
  have B35 := Lib.hid (Blk.ext B34.out (Ext.alloc w4 (.cells #[.slice none 0 0, .int .i64 h.most, .int .i64 h.at_, .slice S sn sc, .slice P pn pc, .bool h.older] 55)))
  have hsz0 : w4.heap.size + 1 ≤ (w4.alloc (.cells #[.slice none 0 0, .int .i64 h.most, .int .i64 h.at_, .slice S sn sc, .slice P pn pc, .bool h.older] 55)).heap.size := by simp
  have hw4 : w.heap.size < w4.heap.size := B34.out.lt
  have hwg : w.heap.size ≤ w4.heap.size := by omega
  have hnb : n ≤ 5864062014640 := by have h1 := HB4.out; have h2 := HN.out; omega
  clear hx4 B34 k0 k1 k2 k3 k4 k5 j0
  generalize w4.heap.size = g9 at *
  go_loopw [53] (fun s53 wx => ∃ (i : Nat) (O : Option Addr) (d : Nat), i ≤ n ∧ s53 = .int .i64 i ∧ Hid (Blk wx g9 55 #[.slice O i d, .int .i64 h.most, .int .i64 h.at_, .slice S sn sc, .slice P pn pc, .bool h.older]) ∧ Hid (Blk wx w.heap.size 55 #[.slice A n c, .int .i64 h.most, .int .i64 h.at_, .slice S sn sc, .slice P pn pc, .bool h.older]) ∧ Hid (Ext w wx) ∧ Hid (LnsA wx (g9 + 1) O i d (h.lines.take i)) ∧ g9 + 1 ≤ wx.heap.size) (fun s53 _ => n - (intOf s53).toNat)
  case atStart => exact ⟨0, none, 0, by omega, rfl, Hb0, B35, Hx0, Lib.hid (by simpa using LnsA.nil _ _), hsz0⟩
  case round =>
    clear Hb0 B35 Hx0 hsz0
    obtain ⟨i, O, d, hk, rfl, Hb1, Hb2, Hx, HO, hsz⟩ := hrel
    have hgg : g9 < wr.heap.size := by omega
    by_cases hlt : i < n
    · obtain ⟨i0, hi, hz0, hz1, hz2⟩ := info_parts info_sl
      have HLn : Lns w A n c h.lines := by
        obtain ⟨_, _, _, _, _, _, _, _, _, e, h1, _⟩ := HV.out
        simp only [hisC, Value.agg.injEq, Array.mk.injEq, List.cons.injEq, Value.slice.injEq, and_true] at e
        obtain ⟨⟨rfl, rfl, rfl⟩, _⟩ := e
        exact h1
      obtain ⟨ad, v, rfl, hc, B, m, q', rfl, hI, hB, hm⟩ := (HLn.ext Hx.out).at_ hlt
      obtain ⟨xs, hO1, hO2, _⟩ := HO.out
      have hmb : Hid (m * 8 ≤ 140737488351232) := Lib.hid (by have h1 := HB1.out i (by rw [HN.out]; exact hlt); have h2 := hI.len; omega)
      have hgl : Hid ((gL h.lines i).length * 8 ≤ 140737488355328) := Lib.hid (by have h1 := HB1.out i (by rw [HN.out]; exact hlt); omega)
      have hk1 : Hid (i + 1 ≤ maxLen ∧ (i + 1) * 24 ≤ 140737488355328) := Lib.hid (by have h1 := HB4.out; have h2 := HN.out; unfold maxLen; omega)
      have HC := Lib.hid (ample_ok (x := 77) (hI.ext (Ext.drew wr)) hmb.out)
      obtain ⟨a0, _⟩ := cells6 Hb1.out
      have a1 : wr.drew.cell? ⟨g9, 0, none⟩ = some (.slice O i d) := a0
      have HO1 := Lib.hid hO1
      have HO2 := Lib.hid hO2
      clear hI hO1 hO2 HO hB hm HLn
      go_upto_region 9 with fail
      go_region_law (first
        | (refine step_call rfl 21 #[.slice B m q', .int .i64 77] (by kernel_rfl) (fun v w' => Amp w' wr.drew.heap.size v (gL h.lines i) 77 ∧ Ext wr.drew w') (HC.out.mono fun e w' ⟨v, h1, h2⟩ => ⟨v, h1, h2⟩) ?_
           rintro v w2 ⟨hAm, hec⟩
           obtain ⟨B2, m2, q2, rfl, hA2⟩ := hAm
           have b1 := hec.cell a1
           have b2 : (w2.alloc (.cells #[.slice (some B2) m2 q2] 22)).cell? ⟨g9, 0, none⟩ = some (.slice O i d) := Ext.cell (Ext.alloc _ _) b1)
        | (refine step_put rfl (.tmp 58) (.tmp 61) 53 rfl w (g9 + 1) 22 i0 _ 1 24 Try.underlying53 hi hz0 hz1 hz2 rfl (by decide) O i d xs rfl (Own.ext HO1.out ((Ext.drew wr).trans hec)) #[.slice (some B2) m2 q2] rfl (by simp [Value.oneCell']) rfl hk1.out.1 hk1.out.2 (Hx.out.trans ((Ext.drew wr).trans hec)) (by omega) (Nat.le_trans hsz (Nat.le_trans (Ext.hsize (Ext.drew wr)) hec.hsize)) ?_
           intro O3 d3 w3' hO3 hgr hor hx3
           have hb3 := Blk.grown (Blk.ext Hb1.out ((Ext.drew wr).trans hec)) hgr (fun e => by have := (Own.blk HO1.out _ e.symm).1; omega)
           have c0 := hb3.cell 0
           have f0 := hb3.frozen 0
           simp only [List.getElem?_toArray, List.getElem?_cons_zero] at c0))
      all_goals
        have hAm : Amp w2 wr.drew.heap.size (.slice (some B2) m2 q2) (gL h.lines i) 77 := ⟨B2, m2, q2, rfl, hA2⟩
        have he2 := (Ext.drew wr).trans hec
        have hOb : ∀ g, (Value.slice O i d).ownBlock = some g → g < wr.heap.size := fun g hg => (Own.blk HO1.out g hg).2
        have hn0 : ∀ g, (Value.slice (some B2) m2 q2).ownBlock = some g → wr.heap.size ≤ g ∧ g < w2.heap.size := fun g hg => hAm.blk g hg
        have hrow : (Value.slice (some B2) m2 q2).ownBlock = none ∨ (Value.slice (some B2) m2 q2).ownBlock ≠ (Value.slice O i d).ownBlock := by
          cases hb : (Value.slice (some B2) m2 q2).ownBlock with
          | none => exact .inl rfl
          | some g => exact .inr (fun e => by have h1 := hn0 g hb; have h2 := hOb g e.symm; omega)
        have hrow' : (Value.slice (some B2) m2 q2).ownBlock = none ∨ (Value.slice (some B2) m2 q2).ownBlock ≠ (Value.slice O3 (i + 1) d3).ownBlock := by
          cases hb : (Value.slice (some B2) m2 q2).ownBlock with
          | none => exact .inl rfl
          | some g => exact .inr (fun e => by
              have h1 := hn0 g hb
              rcases hor with h2 | ⟨g', h2, h3⟩
              · rw [h2] at e; have := hOb g e.symm; omega
              · rw [h3] at e; injection e with e; omega)
        have hnew : Amp w3' (g9 + 1) (.slice (some B2) m2 q2) (gL h.lines i) 77 := (hAm.lower (Nat.le_trans hsz (Nat.le_refl _))).kept hgr hrow
        have hold : LnA w3' (g9 + 1) (Value.slice O3 (i + 1) d3).ownBlock xs (h.lines.take i) := (HO2.out.ext he2).grown hgr hor
        have hall : LnsA w3' (g9 + 1) O3 (i + 1) d3 (h.lines.take (i + 1)) := ⟨xs ++ [.slice (some B2) m2 q2], by simpa using hO3, by rw [gL_take (by rw [HN.out]; exact hlt)]; exact hold.snoc hnew hgl.out hrow', Own.nocap' hO3⟩
        have HLn := Lib.hid (hall.setCell (p := ⟨g9, 0, none⟩) (show g9 < g9 + 1 by omega) (.slice O3 (i + 1) d3))
        have HB1' : Hid (Blk (w3'.setCell ⟨g9, 0, none⟩ (.slice O3 (i + 1) d3)) g9 55 #[.slice O3 (i + 1) d3, .int .i64 h.most, .int .i64 h.at_, .slice S sn sc, .slice P pn pc, .bool h.older]) := Lib.hid (hb3.set_ 0 (.slice O3 (i + 1) d3))
        have HB2' := Lib.hid (set_other (Blk.grown (Blk.ext Hb2.out he2) hgr (fun e => by have := (Own.blk HO1.out _ e.symm).1; omega)) (show g9 ≠ w.heap.size by omega) 0 (.slice O3 (i + 1) d3))
        have HX3 := Lib.hid (hx3.setCell (p := ⟨g9, 0, none⟩) (show w.heap.size ≤ g9 by omega) (.slice O3 (i + 1) d3))
        have hsz3 : g9 + 1 ≤ (w3'.setCell ⟨g9, 0, none⟩ (.slice O3 (i + 1) d3)).heap.size := HB1'.out.lt
        clear hO3 hgr hor hx3 hb3 c0 f0 hA2 hAm hec b1 b2 he2 hOb hn0 hrow hrow' hnew hold hall a0 a1 HO1 HO2 Hb1 Hb2 Hx HC hc hsz hgg hmb hgl hk1
        go_wp2_with fail
        go_roundw
        case rel => exact ⟨i + 1, O3, d3, by omega, by go_num, HB1', HB2', HX3, HLn, hsz3⟩
        case measure => simp [intOf]; omega
    · obtain rfl : i = n := by omega
      rw [List.take_of_length_le (by rw [HN.out]; exact Nat.le_refl _)] at HO
      have hSP : RegSl w (.slice S sn sc) h.scratch ∧ RegSl w (.slice P pn pc) h.pattern := by
        obtain ⟨_, _, _, _, _, _, _, _, _, e, _, _, h1, h2⟩ := HV.out
        simp only [hisC, Value.agg.injEq, Array.mk.injEq, List.cons.injEq, Value.slice.injEq, and_true] at e
        obtain ⟨_, _, _, ⟨rfl, rfl, rfl⟩, rfl, rfl, rfl⟩ := e
        exact ⟨h1, h2⟩
      obtain ⟨B3, m3', q3, hh3, hI3, hB3, hm3⟩ := hSP.1.ext Hx.out
      injection hh3 with h1 h2 h3
      subst h1; subst h2; subst h3
      obtain ⟨B4, m4, q4, hh4, hI4, hB4, hm4⟩ := hSP.2.ext Hx.out
      injection hh4 with h1 h2 h3
      subst h1; subst h2; subst h3
      have HC3 := Lib.hid (ample_ok (x := 77) (hI3.ext (Ext.drew wr)) (by have h1 := HB2.out; have h2 := hI3.len; omega))
      have HC4 : Hid (∀ wq, Ext wr wq → Calls Try.prog 21 #[.slice P pn pc, .int .i64 77] wq fun e w' => ∃ v, e = .returned v ∧ Amp w' wq.heap.size v h.pattern 77 ∧ Ext wq w') := Lib.hid (fun wq he => ample_ok (hI4.ext he) (by have h1 := HB3.out; have h2 := hI4.len; omega))
      obtain ⟨_, _, _, k3, k4, _⟩ := cells6 Hb2.out
      have d3' : wr.drew.cell? ⟨w.heap.size, 3, none⟩ = some (.slice S sn sc) := k3
      have d4' : wr.drew.cell? ⟨w.heap.size, 4, none⟩ = some (.slice P pn pc) := k4
      clear hI3 hI4 hSP hB3 hm3 hB4 hm4 k3 k4
      go_upto_region 11 with fail
      go_cut [] (fun wx => ∃ (S5 : Option Addr) (s5 c5 : Nat) (P6 : Option Addr) (p6 c6 : Nat), Hid (Blk wx g9 55 #[.slice O i d, .int .i64 h.most, .int .i64 h.at_, .slice S5 s5 c5, .slice P6 p6 c6, .bool h.older]) ∧ Hid (Blk wx w.heap.size 55 #[.slice A i c, .int .i64 h.most, .int .i64 h.at_, .slice S sn sc, .slice P pn pc, .bool h.older]) ∧ Hid (Ext w wx) ∧ Hid (HisA wx (g9 + 1) (.agg #[.slice O i d, .int .i64 h.most, .int .i64 h.at_, .slice S5 s5 c5, .slice P6 p6 c6, .bool h.older]) h))
      case first =>
        go_region_law (first
          | (refine step_call rfl 21 #[.slice S sn sc, .int .i64 77] (by kernel_rfl) (fun v w' => Amp w' wr.drew.heap.size v h.scratch 77 ∧ Ext wr.drew w') (HC3.out.mono fun e w' ⟨v, h1, h2⟩ => ⟨v, h1, h2⟩) ?_
             rintro v5 w2 ⟨hA5, he5⟩
             obtain ⟨B5, m5, q5, rfl, hA5⟩ := hA5
             have e4 := he5.cell d4')
          | (refine step_call rfl 21 #[.slice P pn pc, .int .i64 77] (by kernel_rfl) (fun v w' => Amp w' w2.heap.size v h.pattern 77 ∧ Ext w2 w') ((HC4.out _ ((Ext.drew wr).trans he5)).mono fun e w' ⟨v, h1, h2⟩ => ⟨v, h1, h2⟩) ?_
             rintro v6 w3' ⟨hA6, he6⟩
             obtain ⟨B6, m6, q6, rfl, hA6⟩ := hA6
             have hb3 := Blk.ext (Blk.ext Hb1.out ((Ext.drew wr).trans he5)) he6
             obtain ⟨_, _, _, c3', c4', _⟩ := cells6 hb3
             have f3 := hb3.frozen 3
             have f4 := hb3.frozen 4))
        all_goals
          have hA5' : Amp w2 wr.drew.heap.size (.slice (some B5) m5 q5) h.scratch 77 := ⟨B5, m5, q5, rfl, hA5⟩
          have hA6' : Amp w3' w2.heap.size (.slice (some B6) m6 q6) h.pattern 77 := ⟨B6, m6, q6, rfl, hA6⟩
          have he7 := ((Ext.drew wr).trans he5).trans he6
          have hlt1 : g9 < g9 + 1 := by omega
          have R1 := Lib.hid ((hb3.set_ 3 (.slice (some B5) m5 q5)).set_ 4 (.slice (some B6) m6 q6))
          have R2 := Lib.hid (set_other (set_other (Blk.ext Hb2.out he7) (show g9 ≠ w.heap.size by omega) 3 (.slice (some B5) m5 q5)) (show g9 ≠ w.heap.size by omega) 4 (.slice (some B6) m6 q6))
          have R3 := Lib.hid (((Hx.out.trans he7).setCell (p := ⟨g9, 3, none⟩) (show w.heap.size ≤ g9 by omega) (.slice (some B5) m5 q5)).setCell (p := ⟨g9, 4, none⟩) (show w.heap.size ≤ g9 by omega) (.slice (some B6) m6 q6))
          have R4 : Hid (HisA ((w3'.setCell ⟨g9, 3, none⟩ (.slice (some B5) m5 q5)).setCell ⟨g9, 4, none⟩ (.slice (some B6) m6 q6)) (g9 + 1) (.agg #[.slice O i d, .int .i64 h.most, .int .i64 h.at_, .slice (some B5) m5 q5, .slice (some B6) m6 q6, .bool h.older]) h) := Lib.hid
            ⟨O, i, d, some B5, m5, q5, some B6, m6, q6, rfl, ((HO.out.ext he7).setCell (p := ⟨g9, 3, none⟩) hlt1 _).setCell (p := ⟨g9, 4, none⟩) hlt1 _,
              (((hA5'.lower (Nat.le_trans hsz (Nat.le_refl _))).ext he6).setCell (p := ⟨g9, 3, none⟩) hlt1 _).setCell (p := ⟨g9, 4, none⟩) hlt1 _,
              ((hA6'.lower (Nat.le_trans hsz ((Ext.drew wr).trans he5).hsize)).setCell (p := ⟨g9, 3, none⟩) hlt1 _).setCell (p := ⟨g9, 4, none⟩) hlt1 _, by have := HB2.out; omega, by have := HB3.out; omega⟩
          clear hA5' hA6' he7 HC3 HC4 hA5 hA6 he5 he6 e4 d3' d4'
          go_wp2_with fail
          go_meet
          exact ⟨some B5, m5, q5, some B6, m6, q6, R1, R2, R3, R4⟩
      case rest =>
        obtain ⟨S5, s5, c5, P6, p6, c6, HB9, HB0, HX, HA⟩ := hcut
        clear HC3 HC4 d3' d4' Hb1 Hb2 Hx HO
        have HAN := Lib.hid (ample_ok (x := 77) (HNow.out.ext HX.out) HQ.out)
        have hgc : g9 + 1 ≤ wc.heap.size := HB9.out.lt
        go_wp2_with fail
        refine HAN.out.mono ?_
        rintro e w5 ⟨vN, rfl, hAN, he5⟩
        obtain ⟨_, _, _, eN, iN, _⟩ := hAN.ints
        have HAmN := Lib.hid (hAN.lower hgc)
        clear HAN hAN
        obtain ⟨BN, mN, qN, rfl⟩ : ∃ B m q, vN = .slice (some B) m q := ⟨_, _, _, eN⟩
        injection eN with h1 h2 h3
        injection h1 with h1
        subst h1; subst h2; subst h3
        have IN := Lib.hid iN
        have HA5 := Lib.hid (HA.out.ext he5)
        have HB95 := Lib.hid (Blk.ext HB9.out he5)
        have HB05 := Lib.hid (Blk.ext HB0.out he5)
        have HX5 := Lib.hid (HX.out.trans he5)
        have hs5 : wc.heap.size ≤ w5.heap.size := he5.hsize
        have HAd := Lib.hid (add_u HA5.out.hisO.v iN (fun e => by cases e))
        obtain ⟨k0, k1, k2, k3, k4, k5⟩ := cells6 HB95.out
        clear HA HB9 HB0 HX he5 iN
        go_wp2_with fail
        refine HAd.out.mono ?_
        rintro e w6 ⟨u6, x6, rfl, hO6, he6⟩
        obtain ⟨A7, n7, c7, mo7, at7, S7, sn7, sc7, P7, pn7, pc7, ol7, rfl⟩ := hO6.shape
        have T13 := Lib.hid hO6.toT
        go_upto_region 14 with fail
        have hx7 := he6.trans (Ext.alloc w6 (.cells #[.slice A7 n7 c7, .int .i64 mo7, .int .i64 at7, .slice S7 sn7 sc7, .slice P7 pn7 pc7, .bool ol7] 55))
        have hs6 : w5.heap.size ≤ w6.heap.size := he6.hsize
        have hs7 := (Ext.alloc w6 (.cells #[.slice A7 n7 c7, .int .i64 mo7, .int .i64 at7, .slice S7 sn7 sc7, .slice P7 pn7 pc7, .bool ol7] 55)).hsize
        have T13' := Lib.hid (T13.out.ext (Ext.alloc w6 (.cells #[.slice A7 n7 c7, .int .i64 mo7, .int .i64 at7, .slice S7 sn7 sc7, .slice P7 pn7 pc7, .bool ol7] 55)))
        have B13 := Lib.hid (Blk.new w6 55 #[.slice A7 n7 c7, .int .i64 mo7, .int .i64 at7, .slice S7 sn7 sc7, .slice P7 pn7 pc7, .bool ol7])
        change Code.wp _ _ _ _ (w6.alloc (.cells #[.slice A7 n7 c7, .int .i64 mo7, .int .i64 at7, .slice S7 sn7 sc7, .slice P7 pn7 pc7, .bool ol7] 55))
        clear T13 hO6 he6 HAd k0 k1 k2 k3 k4 k5
        generalize w6.alloc (.cells #[.slice A7 n7 c7, .int .i64 mo7, .int .i64 at7, .slice S7 sn7 sc7, .slice P7 pn7 pc7, .bool ol7] 55) = w7 at *
        have HB97 := Lib.hid (Blk.ext HB95.out hx7)
        have HX7 := Lib.hid hx7
        obtain ⟨k0, k1, k2, k3, k4, k5⟩ := cells6 HB97.out
        have HUp := Lib.hid (up_u (k := k) (HA5.out.ext hx7).hisO.v (IN.out.ext hx7) (fun e => by cases e))
        clear hx7
        go_wp2_with fail
        refine HUp.out.mono ?_
        rintro e w8 ⟨u8, L8, m8, z8, x8, rfl, hN8, hL8, he8⟩
        obtain ⟨A9, n9, c9, mo9, at9, S9, sn9, sc9, P9, pn9, pc9, ol9, rfl⟩ := hN8.self.shape
        have T15 := Lib.hid hN8.toT
        have HL8 := Lib.hid hL8
        have hs8 : w7.heap.size ≤ w8.heap.size := he8.hsize
        have HK8 := Lib.hid (Own.blk hL8)
        have B138 := Lib.hid (Blk.ext B13.out he8)
        have T138 := Lib.hid (T13'.out.ext he8)
        go_upto_region 15 with fail
        have hx9 := he8.trans (Ext.alloc w8 (.cells #[.slice A9 n9 c9, .int .i64 mo9, .int .i64 at9, .slice S9 sn9 sc9, .slice P9 pn9 pc9, .bool ol9] 55))
        have hxa := Ext.alloc w8 (.cells #[.slice A9 n9 c9, .int .i64 mo9, .int .i64 at9, .slice S9 sn9 sc9, .slice P9 pn9 pc9, .bool ol9] 55)
        have hs9 := hxa.hsize
        have T15' := Lib.hid (T15.out.ext hxa)
        have T139 := Lib.hid (T138.out.ext hxa)
        have HL9 := Lib.hid (HL8.out.ext hxa)
        have B139 := Lib.hid (Blk.ext B138.out hxa)
        have B15 := Lib.hid (Blk.new w8 55 #[.slice A9 n9 c9, .int .i64 mo9, .int .i64 at9, .slice S9 sn9 sc9, .slice P9 pn9 pc9, .bool ol9])
        change Code.wp _ _ _ _ (w8.alloc (.cells #[.slice A9 n9 c9, .int .i64 mo9, .int .i64 at9, .slice S9 sn9 sc9, .slice P9 pn9 pc9, .bool ol9] 55))
        clear T15 T138 T13' B13 B138 HL8 hL8 hN8 he8 hxa HUp k0 k1 k2 k3 k4 k5
        generalize w8.alloc (.cells #[.slice A9 n9 c9, .int .i64 mo9, .int .i64 at9, .slice S9 sn9 sc9, .slice P9 pn9 pc9, .bool ol9] 55) = w9 at *
        have HX9 := Lib.hid (HX7.out.trans hx9)
        have HB99 := Lib.hid (Blk.ext HB97.out hx9)
        obtain ⟨k0, k1, k2, k3, k4, k5⟩ := cells6 HB99.out
        have HPt : Hid (Ints w9 P6 p6 c6 h.pattern ∧ (P6 = none → c6 = 0)) := Lib.hid (by
          obtain ⟨_, _, _, _, _, _, _, _, _, e, _, _, hAP, _⟩ := HA5.out
          simp only [hisC, Value.agg.injEq, Array.mk.injEq, List.cons.injEq, Value.slice.injEq, and_true] at e
          obtain ⟨_, _, _, _, rfl, rfl, rfl⟩ := e
          obtain ⟨_, _, _, e2, i2, _⟩ := hAP.ints
          cases e2
          exact ⟨(i2.ext HX7.out).ext hx9, fun e => by cases e⟩)
        have HFi := Lib.hid (find_u (older := true) (HA5.out.ext HX9.out).hisO.v (IN.out.ext HX9.out) (fun e => by cases e) HPt.out.1 HPt.out.2)
        clear hx9
        go_wp2_with fail
        refine HFi.out.mono ?_
        rintro e w10 ⟨u10, L10, m10, z10, x10, rfl, hN10, hL10, he10⟩
        obtain ⟨A11, n11, c11, mo11, at11, S11, sn11, sc11, P11, pn11, pc11, ol11, rfl⟩ := hN10.self.shape
        have T18 := Lib.hid hN10.toT
        have hs10 : w9.heap.size ≤ w10.heap.size := he10.hsize
        have HK10 := Lib.hid (Own.blk hL10)
        have hxa := Ext.alloc w10 (.cells #[.slice A11 n11 c11, .int .i64 mo11, .int .i64 at11, .slice S11 sn11 sc11, .slice P11 pn11 pc11, .bool ol11] 55)
        have hxb := he10.trans hxa
        have hs11 := hxa.hsize
        have hx11 := Lib.hid (HX9.out.trans hxb)
        have T18' := Lib.hid (T18.out.ext hxa)
        have T15a := Lib.hid (T15'.out.ext hxb)
        have T13a := Lib.hid (T139.out.ext hxb)
        have HL15 := Lib.hid (HL9.out.ext hxb)
        have HL18 := Lib.hid (hL10.ext hxa)
        have B13a := Lib.hid (Blk.ext B139.out hxb)
        have B15a := Lib.hid (Blk.ext B15.out hxb)
        have B18 := Lib.hid (Blk.new w10 55 #[.slice A11 n11 c11, .int .i64 mo11, .int .i64 at11, .slice S11 sn11 sc11, .slice P11 pn11 pc11, .bool ol11])
        have HB9a := Lib.hid (Blk.ext HB99.out hxb)
        have HB0a := Lib.hid (Blk.ext HB05.out hx11.out)
        have HAa := Lib.hid (HA5.out.ext hx11.out)
        have HAmNa := Lib.hid (HAmN.out.ext hx11.out)
        have HXa := Lib.hid (HX5.out.trans hx11.out)
        go_upto_region 16 with fail
        change Code.wp _ _ _ _ (w10.alloc (.cells #[.slice A11 n11 c11, .int .i64 mo11, .int .i64 at11, .slice S11 sn11 sc11, .slice P11 pn11 pc11, .bool ol11] 55))
        clear T18 T15' T139 HL9 B139 B15 hxa hxb hL10 hN10 he10 HFi HPt k0 k1 k2 k3 k4 k5 HB99 HX9 HX7 HB97 HB95
        generalize w10.alloc (.cells #[.slice A11 n11 c11, .int .i64 mo11, .int .i64 at11, .slice S11 sn11 sc11, .slice P11 pn11 pc11, .bool ol11] 55) = w11 at *
        obtain ⟨k0, k1, k2, k3, k4, k5⟩ := cells6 HB9a.out
        have HLA : Hid (LnsA w11 (g9 + 1) O i d h.lines ∧ Lns w11 A i c h.lines) := Lib.hid (by
          obtain ⟨_, _, _, _, _, _, _, _, _, e, hLL, _⟩ := HAa.out
          simp only [hisC, Value.agg.injEq, Array.mk.injEq, List.cons.injEq, Value.slice.injEq, and_true] at e
          obtain ⟨⟨rfl, rfl, rfl⟩, _⟩ := e
          obtain ⟨_, _, _, _, _, _, _, _, _, e, hL2, _⟩ := HV.out
          simp only [hisC, Value.agg.injEq, Array.mk.injEq, List.cons.injEq, Value.slice.injEq, and_true] at e
          obtain ⟨⟨rfl, rfl, rfl⟩, _⟩ := e
          exact ⟨hLL, hL2.ext HXa.out⟩)
        go_wp2_with fail
        go_loopw [101] (fun s101 wx => ∃ (j kk : Nat), j ≤ i ∧ s101 = .int .i64 j ∧ wx = w11.drewN kk) (fun s101 _ => i - (intOf s101).toNat)
        case atStart => exact ⟨0, 0, by omega, rfl, rfl⟩
        case round =>
          obtain ⟨j, kk, hj, rfl, rfl⟩ := hrel
          by_cases hlt : j < i
          · obtain ⟨ad, v, e1, hc, hAm, _⟩ := HLA.out.1.at_ hlt
            obtain ⟨ad2, v2, e2, hc2, B, m, q', rfl, hI, _⟩ := HLA.out.2.at_ hlt
            subst e1; subst e2
            obtain ⟨BA, mA, qA, rfl, hA, hAl⟩ := hAm
            have HSt := Lib.hid (stays_ok (x := 77) ((OwnI.ints hA).ext (Ext.drewN w11 kk)) hAl (hI.ext (Ext.drewN w11 kk)))
            obtain ⟨j0, _⟩ := cells6 HB0a.out
            clear hA hAl hI
            go_wp2_with fail
            refine HSt.out.mono ?_
            rintro e _ ⟨rfl, kq, rfl⟩
            clear HSt
            go_wp2_with fail
            go_roundw
            case rel => exact ⟨j + 1, kk + kq, by omega, by go_num, by first | rfl | simp⟩
            case measure => simp [intOf]; omega
          · obtain rfl : j = i := by omega
            have HSS : Hid ((∀ wz, Ext w11 wz → Calls Try.prog 23 #[.slice S5 s5 c5, .slice S sn sc, .int .i64 77] wz fun e w' => e = .returned (.bool true) ∧ ∃ k, w' = wz.drewN k) ∧ (∀ wz, Ext w11 wz → Calls Try.prog 23 #[.slice P6 p6 c6, .slice P pn pc, .int .i64 77] wz fun e w' => e = .returned (.bool true) ∧ ∃ k, w' = wz.drewN k)) := Lib.hid (by
              obtain ⟨_, _, _, _, _, _, _, _, _, e, _, hAS, hAP, _⟩ := HAa.out
              cases e
              obtain ⟨_, _, _, _, _, _, _, _, _, e, _, _, ⟨_, _, _, e3, i3, _⟩, ⟨_, _, _, e4, i4, _⟩⟩ := HV.out
              cases e; cases e3; cases e4
              obtain ⟨_, _, _, e5, o5, l5⟩ := hAS
              obtain ⟨_, _, _, e6, o6, l6⟩ := hAP
              cases e5; cases e6
              exact ⟨fun wz hz => stays_ok ((OwnI.ints o5).ext hz) l5 ((i3.ext HXa.out).ext hz), fun wz hz => stays_ok ((OwnI.ints o6).ext hz) l6 ((i4.ext HXa.out).ext hz)⟩)
            have HSN : Hid (∀ wz, Ext w11 wz → Calls Try.prog 23 #[.slice (some BN) mN qN, .slice N q y, .int .i64 77] wz fun e w' => e = .returned (.bool true) ∧ ∃ k, w' = wz.drewN k) := Lib.hid (by
              obtain ⟨_, _, _, e5, o5, l5⟩ := HAmNa.out
              cases e5
              exact fun wz hz => stays_ok ((OwnI.ints o5).ext hz) l5 ((HNow.out.ext HXa.out).ext hz))
            have hxk := Lib.hid (Ext.drewN w11 kk)
            clear HLA k0 k1 k2 k3 k4 k5
            generalize w11.drewN kk = wq at *
            obtain ⟨-, -, -, j3, j4, -⟩ := cells6 (Blk.ext HB0a.out hxk.out)
            obtain ⟨-, -, -, k3, k4, -⟩ := cells6 (Blk.ext HB9a.out hxk.out)
            have HC1 := Lib.hid (HSS.out.1 _ hxk.out)
            go_wp2_with fail
            refine HC1.out.mono ?_
            rintro e wq1 ⟨rfl, nq1, hq1⟩
            have hxk1 := Lib.hid (hxk.out.trans (hq1 ▸ Ext.drewN wq nq1))
            clear HC1 j3 j4 k3 k4 hq1 hxk
            obtain ⟨-, -, -, j3, j4, -⟩ := cells6 (Blk.ext HB0a.out hxk1.out)
            obtain ⟨-, -, -, k3, k4, -⟩ := cells6 (Blk.ext HB9a.out hxk1.out)
            have HC1 := Lib.hid (HSS.out.2 _ hxk1.out)
            go_wp2_with fail
            refine HC1.out.mono ?_
            rintro e wq2 ⟨rfl, nq2, hq2⟩
            have hxk2 := Lib.hid (hxk1.out.trans (hq2 ▸ Ext.drewN wq1 nq2))
            have HC2 := Lib.hid (HSN.out _ hxk2.out)
            clear HC1 j3 j4 k3 k4 hxk1 hq2
            go_wp2_with fail
            refine HC2.out.mono ?_
            rintro e w12 ⟨rfl, nq3, hq3⟩
            have hxq := Lib.hid (hxk2.out.trans (hq3 ▸ Ext.drewN wq2 nq3))
            clear HC2 hxk2 hq3 HSS HSN
            have X0 := Lib.hid (HXa.out.trans hxq.out)
            have hs12 : w11.heap.size ≤ w12.heap.size := hxq.out.hsize
            have XA := Lib.hid (HAa.out.ext hxq.out)
            have XN := Lib.hid (HAmNa.out.ext hxq.out)
            have T1 := Lib.hid (T13a.out.ext hxq.out)
            have T2 := Lib.hid (T15a.out.ext hxq.out)
            have T3 := Lib.hid (T18'.out.ext hxq.out)
            have L2 := Lib.hid (HL15.out.ext hxq.out)
            have L3 := Lib.hid (HL18.out.ext hxq.out)
            have D1 := Lib.hid (B13a.out.ext hxq.out)
            have D2 := Lib.hid (B15a.out.ext hxq.out)
            have D3 := Lib.hid (B18.out.ext hxq.out)
            have D9 := Lib.hid (Blk.ext HB9a.out hxq.out)
            have hxn : Hid (Ext w5 w12) := Lib.hid (hx11.out.trans hxq.out)
            have HIN := Lib.hid (IN.out.ext hxn.out)
            have HAd := Lib.hid (add_u XA.out.hisO.v HIN.out (fun e => by cases e))
            obtain ⟨k0, k1, k2, k3, k4, k5⟩ := cells6 D9.out
            clear HXa HAa HAmNa T13a T15a T18' HL15 HL18 B13a B15a B18 HB9a HB0a hxq hx11
            go_wp2_with fail
            refine HAd.out.mono ?_
            rintro e w13 ⟨u13, x13, rfl, hO13, he13⟩
            obtain ⟨A13, n13, c13, mo13, at13, S13, sn13, sc13, P13, pn13, pc13, ol13, rfl⟩ := hO13.shape
            have T13b := Lib.hid hO13.toT
            have hs13 : w12.heap.size ≤ w13.heap.size := he13.hsize
            go_upto_region 25 with fail
            change Code.wp _ _ _ _ (w13.alloc (.cells #[.slice A13 n13 c13, .int .i64 mo13, .int .i64 at13, .slice S13 sn13 sc13, .slice P13 pn13 pc13, .bool ol13] 55))
            have hxa := Ext.alloc w13 (.cells #[.slice A13 n13 c13, .int .i64 mo13, .int .i64 at13, .slice S13 sn13 sc13, .slice P13 pn13 pc13, .bool ol13] 55)
            have T4 := Lib.hid (T13b.out.ext hxa)
            have D4 := Lib.hid (Blk.new w13 55 #[.slice A13 n13 c13, .int .i64 mo13, .int .i64 at13, .slice S13 sn13 sc13, .slice P13 pn13 pc13, .bool ol13])
            have Y14 := Lib.hid (he13.trans hxa)
            clear T13b hO13 he13 HAd hxa k0 k1 k2 k3 k4 k5
            generalize w13.alloc (.cells #[.slice A13 n13 c13, .int .i64 mo13, .int .i64 at13, .slice S13 sn13 sc13, .slice P13 pn13 pc13, .bool ol13] 55) = w14 at *
            obtain ⟨k0, k1, k2, k3, k4, k5⟩ := cells6 (D9.out.ext Y14.out)
            have HUp := Lib.hid (up_u (k := k) (XA.out.ext Y14.out).hisO.v (HIN.out.ext Y14.out) (fun e => by cases e))
            go_wp2_with fail
            refine HUp.out.mono ?_
            rintro e w15 ⟨u15, L15, m15, z15, x15, rfl, hN15, hL15, he15⟩
            have hs15 : w14.heap.size ≤ w15.heap.size := he15.hsize
            obtain ⟨A15, n15, c15, mo15, at15, S15, sn15, sc15, P15, pn15, pc15, ol15, rfl⟩ := hN15.self.shape
            go_upto_region 26 with fail
            change Code.wp _ _ _ _ (w15.alloc (.cells #[.slice A15 n15 c15, .int .i64 mo15, .int .i64 at15, .slice S15 sn15 sc15, .slice P15 pn15 pc15, .bool ol15] 55))
            have hxa := Ext.alloc w15 (.cells #[.slice A15 n15 c15, .int .i64 mo15, .int .i64 at15, .slice S15 sn15 sc15, .slice P15 pn15 pc15, .bool ol15] 55)
            have T5 := Lib.hid (hN15.toT.ext hxa)
            have L5 := Lib.hid (hL15.ext hxa)
            have D5 := Lib.hid (Blk.new w15 55 #[.slice A15 n15 c15, .int .i64 mo15, .int .i64 at15, .slice S15 sn15 sc15, .slice P15 pn15 pc15, .bool ol15])
            have Z15 := Lib.hid (he15.trans hxa)
            have Y16 := Lib.hid (Y14.out.trans Z15.out)
            clear hN15 hL15 he15 HUp hxa k0 k1 k2 k3 k4 k5
            generalize w15.alloc (.cells #[.slice A15 n15 c15, .int .i64 mo15, .int .i64 at15, .slice S15 sn15 sc15, .slice P15 pn15 pc15, .bool ol15] 55) = w16 at *
            obtain ⟨k0, k1, k2, k3, k4, k5⟩ := cells6 (D9.out.ext Y16.out)
            have HPt : Hid (Ints w12 P6 p6 c6 h.pattern ∧ (P6 = none → c6 = 0)) := Lib.hid (by
              obtain ⟨_, _, _, _, _, _, _, _, _, e, _, _, hAP, _⟩ := XA.out
              simp only [hisC, Value.agg.injEq, Array.mk.injEq, List.cons.injEq, Value.slice.injEq, and_true] at e
              obtain ⟨_, _, _, _, rfl, rfl, rfl⟩ := e
              obtain ⟨_, _, _, e2, i2, _⟩ := hAP.ints
              cases e2
              exact ⟨i2, fun e => by cases e⟩)
            have HFi := Lib.hid (find_u (older := true) (XA.out.ext Y16.out).hisO.v (HIN.out.ext Y16.out) (fun e => by cases e) (HPt.out.1.ext Y16.out) HPt.out.2)
            go_wp2_with fail
            refine HFi.out.mono ?_
            rintro e w17 ⟨u17, L17, m17, z17, x17, rfl, hN17, hL17, he17⟩
            have hs17 : w16.heap.size ≤ w17.heap.size := he17.hsize
            obtain ⟨A17, n17, c17, mo17, at17, S17, sn17, sc17, P17, pn17, pc17, ol17, rfl⟩ := hN17.self.shape
            go_upto_region 27 with fail
            change Code.wp _ _ _ _ (w17.alloc (.cells #[.slice A17 n17 c17, .int .i64 mo17, .int .i64 at17, .slice S17 sn17 sc17, .slice P17 pn17 pc17, .bool ol17] 55))
            have hxa := Ext.alloc w17 (.cells #[.slice A17 n17 c17, .int .i64 mo17, .int .i64 at17, .slice S17 sn17 sc17, .slice P17 pn17 pc17, .bool ol17] 55)
            have T6 := Lib.hid (hN17.toT.ext hxa)
            have L6 := Lib.hid (hL17.ext hxa)
            have D6 := Lib.hid (Blk.new w17 55 #[.slice A17 n17 c17, .int .i64 mo17, .int .i64 at17, .slice S17 sn17 sc17, .slice P17 pn17 pc17, .bool ol17])
            have Z17 := Lib.hid (he17.trans hxa)
            have Y18 := Lib.hid (Y16.out.trans Z17.out)
            clear hN17 hL17 he17 HFi hxa k0 k1 k2 k3 k4 k5 HPt
            generalize w17.alloc (.cells #[.slice A17 n17 c17, .int .i64 mo17, .int .i64 at17, .slice S17 sn17 sc17, .slice P17 pn17 pc17, .bool ol17] 55) = w18 at *
            have hs14 : w12.heap.size ≤ w14.heap.size := Y14.out.hsize
            have hs16 : w14.heap.size ≤ w16.heap.size := Z15.out.hsize
            have hs18 : w16.heap.size ≤ w18.heap.size := Z17.out.hsize
            have hg5 : g9 + 1 ≤ w5.heap.size := by omega
            obtain ⟨xs, hown, hxl, hxS, hxP⟩ := HA5.out.rows
            have HR : Hid ((∀ i, i < j → ∃ B m q, xs[i]? = some (.slice B m q) ∧ RowB w18 (.slice B m q) (g9 + 1) w5.heap.size) ∧ RowB w18 (.slice S5 s5 c5) (g9 + 1) w5.heap.size ∧ RowB w18 (.slice P6 p6 c6) (g9 + 1) w5.heap.size ∧ RowB w18 (.slice (some BN) mN qN) (g9 + 1) w5.heap.size) := Lib.hid (by
              have hz := hxn.out.trans Y18.out
              exact ⟨fun i hi => let ⟨B, m, q, h1, h2⟩ := hxl i hi; ⟨B, m, q, h1, h2.ext hz⟩, hxS.ext hz, hxP.ext hz, HAmN.out.rowB.ext hz⟩)
            have HSP0 : Hid (SpI w w18 g9 w5.heap.size #[.slice O j d, .int .i64 h.most, .int .i64 h.at_, .slice S5 s5 c5, .slice P6 p6 c6, .bool h.older] O j d xs w18) := Lib.hid ⟨GrowLow.refl _ _, X0.out.trans Y18.out, fun v h => h, D9.out.ext Y18.out, Own.ext hown (hxn.out.trans Y18.out)⟩
            obtain ⟨k0, -, -, -, -, -⟩ := cells6 HSP0.out.blk
            clear hown hxl hxS hxP HB05 HA5 HAmN HX5 IN XN XA HIN
            go_wp2_with fail
            go_loopw [161] (fun s161 wx => ∃ (jj : Nat), jj ≤ j ∧ s161 = .int .i64 jj ∧ Hid (SpI w w18 g9 w5.heap.size #[.slice O j d, .int .i64 h.most, .int .i64 h.at_, .slice S5 s5 c5, .slice P6 p6 c6, .bool h.older] O j d xs wx)) (fun s161 _ => j - (intOf s161).toNat)
            case atStart => exact ⟨0, by omega, rfl, HSP0⟩
            case round =>
              clear HSP0 k0
              obtain ⟨jj, hjj, rfl, HSP⟩ := hrel
              by_cases hlt2 : jj < j
              · obtain ⟨gO, rfl⟩ : ∃ g, O = some ⟨g, 0, none⟩ := by
                  rcases HSP.out.own.2 with ⟨_, h0⟩ | ⟨g, cap, cur, hv, _⟩
                  · omega
                  · injection hv with hA
                    exact ⟨g, hA⟩
                obtain ⟨B, m, qq, hv, hrow⟩ := HR.out.1 jj hlt2
                have hc := (World.ownsRow.cellAt HSP.out.own jj (by omega)).trans hv
                have HC := Lib.hid (spoil_row (x := 5) (HSP.out.row _ hrow))
                clear hv hrow
                go_wp2_with fail
                refine HC.out.mono ?_
                rintro e' wy ⟨⟨u3, rfl⟩, hsp⟩
                have HSP2 := Lib.hid (HSP.out.step hwg hsp)
                clear HC HSP hsp hc
                go_wp2_with fail
                go_roundw
                case rel => exact ⟨jj + 1, by omega, by go_num, HSP2⟩
                case measure => simp [intOf]; omega
              · obtain rfl : jj = j := by omega
                obtain ⟨-, -, -, k3, -, -⟩ := cells6 HSP.out.blk
                have HC := Lib.hid (spoil_row (x := 5) (HSP.out.row _ HR.out.2.1))
                go_wp2_with fail
                refine HC.out.mono ?_
                rintro e' w19 ⟨⟨u3, rfl⟩, hsp⟩
                have HSP2 := Lib.hid (HSP.out.step hwg hsp)
                clear HC HSP hsp k3
                obtain ⟨-, -, -, -, k4, -⟩ := cells6 HSP2.out.blk
                have HC := Lib.hid (spoil_row (x := 5) (HSP2.out.row _ HR.out.2.2.1))
                go_wp2_with fail
                refine HC.out.mono ?_
                rintro e' w20 ⟨⟨u4, rfl⟩, hsp⟩
                have HSP3 := Lib.hid (HSP2.out.step hwg hsp)
                clear HC HSP2 hsp k4
                have HC := Lib.hid (spoil_row (x := 5) (HSP3.out.row _ HR.out.2.2.2))
                go_wp2_with fail
                refine HC.out.mono ?_
                rintro e' w21 ⟨⟨u5, rfl⟩, hsp⟩
                have HSP4 := Lib.hid (HSP3.out.step hwg hsp)
                clear HC HSP3 hsp
                have hG := HSP4.out.low
                have hY := Y18.out
                have hZ := Z15.out.trans Z17.out
                have F1 := Lib.hid (hG.hisT (T1.out.ext hY) (Nat.le_refl _))
                have F2 := Lib.hid (hG.hisT (T2.out.ext hY) (show w5.heap.size ≤ w7.heap.size by omega))
                have F3 := Lib.hid (hG.hisT (T3.out.ext hY) (show w5.heap.size ≤ w9.heap.size by omega))
                have F4 := Lib.hid (hG.hisT (T4.out.ext hZ) (show w5.heap.size ≤ w12.heap.size by omega))
                have F5 := Lib.hid (hG.hisT (T5.out.ext Z17.out) (show w5.heap.size ≤ w14.heap.size by omega))
                have F6 := Lib.hid (hG.hisT T6.out (show w5.heap.size ≤ w16.heap.size by omega))
                have G2 := Lib.hid (hG.ownI (L2.out.ext hY) (show w5.heap.size ≤ w7.heap.size by omega))
                have G3 := Lib.hid (hG.ownI (L3.out.ext hY) (show w5.heap.size ≤ w9.heap.size by omega))
                have G5 := Lib.hid (hG.ownI (L5.out.ext Z17.out) (show w5.heap.size ≤ w14.heap.size by omega))
                have G6 := Lib.hid (hG.ownI L6.out (show w5.heap.size ≤ w16.heap.size by omega))
                have C1 := Lib.hid (hG.blk (D1.out.ext hY) (show w5.heap.size ≤ w6.heap.size by omega))
                have C2 := Lib.hid (hG.blk (D2.out.ext hY) (show w5.heap.size ≤ w8.heap.size by omega))
                have C3 := Lib.hid (hG.blk (D3.out.ext hY) (show w5.heap.size ≤ w10.heap.size by omega))
                have C4 := Lib.hid (hG.blk (D4.out.ext hZ) (show w5.heap.size ≤ w13.heap.size by omega))
                have C5 := Lib.hid (hG.blk (D5.out.ext Z17.out) (show w5.heap.size ≤ w15.heap.size by omega))
                have C6 := Lib.hid (hG.blk D6.out (show w5.heap.size ≤ w17.heap.size by omega))
                have HXF := Lib.hid HSP4.out.ext
                have hw7 : w.heap.size ≤ w7.heap.size := by omega
                have hb2 : Hid (∀ g, (Value.slice L8 m8 z8).ownBlock = some g → g < w14.heap.size ∧ g < w16.heap.size ∧ g < w9.heap.size ∧ w7.heap.size ≤ g) := Lib.hid fun g hg => by have := HK8.out g hg; omega
                have hb3 : Hid (∀ g, (Value.slice L10 m10 z10).ownBlock = some g → g < w14.heap.size ∧ g < w16.heap.size ∧ w9.heap.size ≤ g ∧ w8.heap.size ≤ g ∧ w7.heap.size ≤ g) := Lib.hid fun g hg => by have := HK10.out g hg; omega
                clear T1 T2 T3 T4 T5 T6 L2 L3 L5 L6 D1 D2 D3 D4 D5 D6 D9 Y14 Y16 Y18 Z15 Z17 HSP4 HR hG hY hZ hxn X0 hs6 hs7 hs8 hs9 hs10 hs11 hs12 hs13 hs14 hs15 hs16 hs17 hs18 hg5 HK8 HK10
                have X21 := Lib.hid (Ext.refl w21)
                obtain ⟨p0, p1, p2, p3, p4, p5⟩ := cells6 (C1.out.ext X21.out)
                obtain ⟨q0, q1, q2, q3, q4, q5⟩ := cells6 (C4.out.ext X21.out)
                have HC := Lib.hid (sameH_ok (F1.out.ext X21.out).o.v (F4.out.ext X21.out).o.v)
                go_wp2_with fail
                refine HC.out.mono ?_
                rintro e' w22 ⟨rfl, hx⟩
                have X22 := Lib.hid (X21.out.trans hx)
                clear HC hx X21 p0 p1 p2 p3 p4 p5 q0 q1 q2 q3 q4 q5
                obtain ⟨p0, p1, p2, p3, p4, p5⟩ := cells6 (C2.out.ext X22.out)
                obtain ⟨q0, q1, q2, q3, q4, q5⟩ := cells6 (C5.out.ext X22.out)
                have HC := Lib.hid (sameH_ok (F2.out.ext X22.out).o.v (F5.out.ext X22.out).o.v)
                go_wp2_with fail
                refine HC.out.mono ?_
                rintro e' w23 ⟨rfl, hx⟩
                have X23 := Lib.hid (X22.out.trans hx)
                clear HC hx X22 p0 p1 p2 p3 p4 p5 q0 q1 q2 q3 q4 q5
                obtain ⟨p0, p1, p2, p3, p4, p5⟩ := cells6 (C3.out.ext X23.out)
                obtain ⟨q0, q1, q2, q3, q4, q5⟩ := cells6 (C6.out.ext X23.out)
                have HC := Lib.hid (sameH_ok (F3.out.ext X23.out).o.v (F6.out.ext X23.out).o.v)
                go_wp2_with fail
                refine HC.out.mono ?_
                rintro e' w24 ⟨rfl, hx⟩
                have X24 := Lib.hid (X23.out.trans hx)
                clear HC hx X23 p0 p1 p2 p3 p4 p5 q0 q1 q2 q3 q4 q5
                have HC := Lib.hid (equal_ext (G2.out.ext X24.out).ints (G5.out.ext X24.out).ints)
                rw [eqB_true.2 rfl] at HC
                go_wp2_with fail
                refine HC.out.mono ?_
                rintro e' w25 ⟨rfl, hx⟩
                have X25 := Lib.hid (X24.out.trans hx)
                clear HC hx X24
                have HC := Lib.hid (equal_ext (G3.out.ext X25.out).ints (G6.out.ext X25.out).ints)
                rw [eqB_true.2 rfl] at HC
                go_wp2_with fail
                refine HC.out.mono ?_
                rintro e' w26 ⟨rfl, hx⟩
                have X26 := Lib.hid (X25.out.trans hx)
                clear HC hx X25
                have HC := Lib.hid (spoil_ok (x := 9) (G2.out.ext X26.out))
                go_wp2_with fail
                refine HC.out.mono ?_
                rintro e' w27 ⟨⟨u6', rfl⟩, hgr⟩
                have M2 := Lib.hid ((F2.out.ext X26.out).grownO hgr (fun g hg => .inr (.inr hg)))
                have M3 := Lib.hid ((F3.out.ext X26.out).grownO hgr (fun g hg => .inl (hb2.out g hg).2.2.1))
                have M5 := Lib.hid ((F5.out.ext X26.out).grownO hgr (fun g hg => .inl (hb2.out g hg).1))
                have M6 := Lib.hid ((F6.out.ext X26.out).grownO hgr (fun g hg => .inl (hb2.out g hg).2.1))
                have N2 := Lib.hid (Blk.grown (C2.out.ext X26.out) hgr (ne_his (G2.out.ext X26.out) (C2.out.ext X26.out)))
                have N3 := Lib.hid (Blk.grown (C3.out.ext X26.out) hgr (ne_his (G2.out.ext X26.out) (C3.out.ext X26.out)))
                have N5 := Lib.hid (Blk.grown (C5.out.ext X26.out) hgr (ne_his (G2.out.ext X26.out) (C5.out.ext X26.out)))
                have N6 := Lib.hid (Blk.grown (C6.out.ext X26.out) hgr (ne_his (G2.out.ext X26.out) (C6.out.ext X26.out)))
                have O3 : Hid (OwnI w27 w9.heap.size L10 m10 z10 (findL h now h.pattern true)) := Lib.hid (Own.kept (G3.out.ext X26.out) hgr (by
                  cases hb : (Value.slice L10 m10 z10).ownBlock with
                  | none => exact .inl rfl
                  | some g => exact .inr (fun e => by have h1 := hb2.out g e.symm; have h2 := hb3.out g hb; omega)))
                have HX27 := Lib.hid (ext_spoiltO (HXF.out.trans X26.out) hgr (fun g hg => by have h1 := hb2.out g hg; omega))
                clear HC hgr F1 F2 F3 F4 F5 F6 G2 G3 G5 G6 C1 C2 C3 C4 C5 C6 X26 HXF
                have HC := Lib.hid (spoil_ok (x := 9) O3.out)
                go_wp2_with fail
                refine HC.out.mono ?_
                rintro e' w28 ⟨⟨u7', rfl⟩, hgr⟩
                have F2 := Lib.hid (M2.out.grownO hgr (fun g hg => .inr (.inl (hb3.out g hg).2.2.2.1)))
                have F3 := Lib.hid (M3.out.grownO hgr (fun g hg => .inr (.inr hg)))
                have F5 := Lib.hid (M5.out.grownO hgr (fun g hg => .inl (hb3.out g hg).1))
                have F6 := Lib.hid (M6.out.grownO hgr (fun g hg => .inl (hb3.out g hg).2.1))
                have C2 := Lib.hid (Blk.grown N2.out hgr (ne_his O3.out N2.out))
                have C3 := Lib.hid (Blk.grown N3.out hgr (ne_his O3.out N3.out))
                have C5 := Lib.hid (Blk.grown N5.out hgr (ne_his O3.out N5.out))
                have C6 := Lib.hid (Blk.grown N6.out hgr (ne_his O3.out N6.out))
                have HXF := Lib.hid (ext_spoiltO HX27.out hgr (fun g hg => by have h1 := hb3.out g hg; omega))
                clear HC hgr M2 M3 M5 M6 N2 N3 N5 N6 O3 HX27
                have X28 := Lib.hid (Ext.refl w28)
                obtain ⟨p0, p1, p2, p3, p4, p5⟩ := cells6 (C2.out.ext X28.out)
                obtain ⟨q0, q1, q2, q3, q4, q5⟩ := cells6 (C5.out.ext X28.out)
                have HC := Lib.hid (sameH_ok (F2.out.ext X28.out).o.v (F5.out.ext X28.out).o.v)
                go_wp2_with fail
                refine HC.out.mono ?_
                rintro e' w29 ⟨rfl, hx⟩
                have X29 := Lib.hid (X28.out.trans hx)
                clear HC hx X28 p0 p1 p2 p3 p4 p5 q0 q1 q2 q3 q4 q5
                obtain ⟨p0, p1, p2, p3, p4, p5⟩ := cells6 (C3.out.ext X29.out)
                obtain ⟨q0, q1, q2, q3, q4, q5⟩ := cells6 (C6.out.ext X29.out)
                have HC := Lib.hid (sameH_ok (F3.out.ext X29.out).o.v (F6.out.ext X29.out).o.v)
                go_wp2_with fail
                refine HC.out.mono ?_
                rintro e' w30 ⟨rfl, hx⟩
                have X30 := Lib.hid (X29.out.trans hx)
                clear HC hx X29 p0 p1 p2 p3 p4 p5 q0 q1 q2 q3 q4 q5
                go_wp2_with fail
                go_ret
                exact ⟨rfl, HXF.out.trans X30.out⟩
end Go.Proofs.Ytbhbakejpgndmaa
