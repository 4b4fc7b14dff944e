/-
  The walk of hist.copied.
-/
import Derived.Test.YtbhbakejpgndmaaHisC
import Derived.Deep.RegionLaw
import Derived.Test.YtbhbakejpgndmaaPush
namespace Go.Proofs.Ytbhbakejpgndmaa
open Go.RowKit
set_option linter.unusedVariables false
set_option linter.unusedSimpArgs false

/-- The value is a history in memory of the call's own. -/
def HisO (w : World) (b : Nat) (v : Value) (h : Hi) : Prop := ∃ A n c S sn sc P pn pc, v = .agg (hisC A n c h.most h.at_ S sn sc P pn pc h.older) ∧ LnsO w b A n c h.lines ∧ RegOw w b (.slice S sn sc) h.scratch ∧ RegOw w b (.slice P pn pc) h.pattern
theorem LnsO.nocap {w : World} {b : Nat} {A : Option Addr} {n c : Nat} {ls : List (List Int)} (h : LnsO w b A n c ls) : A = none → c = 0 := h.choose_spec.2.2
theorem HisO.v {w : World} {b : Nat} {v : Value} {h : Hi} (hh : HisO w b v h) : HisV w v h := by
  obtain ⟨A, n, c, S, sn, sc, P, pn, pc, rfl, h1, h2, h3⟩ := hh
  exact ⟨A, n, c, S, sn, sc, P, pn, pc, rfl, h1.lns, h1.nocap, h2.sl, h3.sl⟩
theorem HisV.ext {w w' : World} {v : Value} {h : Hi} (hh : HisV w v h) (he : Ext w w') : HisV w' v h := by
  obtain ⟨A, n, c, S, sn, sc, P, pn, pc, rfl, h1, h2, h3, h4⟩ := hh
  exact ⟨A, n, c, S, sn, sc, P, pn, pc, rfl, h1.ext he, h2, h3.ext he, h4.ext he⟩
theorem HisO.ext {w w' : World} {b : Nat} {v : Value} {h : Hi} (hh : HisO w b v h) (he : Ext w w') : HisO w' b v h := by
  obtain ⟨A, n, c, S, sn, sc, P, pn, pc, rfl, h1, h2, h3⟩ := hh
  exact ⟨A, n, c, S, sn, sc, P, pn, pc, rfl, h1.ext he, h2.ext he, h3.ext he⟩
theorem HisO.lower {w : World} {b b' : Nat} {v : Value} {h : Hi} (hh : HisO w b v h) (hb : b' ≤ b) : HisO w b' v h := by
  obtain ⟨A, n, c, S, sn, sc, P, pn, pc, rfl, h1, h2, h3⟩ := hh
  exact ⟨A, n, c, S, sn, sc, P, pn, pc, rfl, h1.lower hb, h2.lower hb, h3.lower hb⟩
theorem Own.nocap' {w : World} {base e z n c : Nat} {A : Option Addr} {xs : List Value} (h : Own w base e z A n c xs) : A = none → c = 0 := by
  rintro rfl
  rcases h.2 with ⟨hv, _⟩ | ⟨g', cap, cur, hv, _⟩
  · injection hv
  · injection hv with h _ _; cases h
theorem HisO.setRow {w : World} {b : Nat} {v : Value} {h : Hi} (hh : HisO w b v h) {g : Nat} (hg : g < b) (us : Array Value) : HisO (w.setRow g us) b v h := by
  obtain ⟨A, n, c, S, sn, sc, P, pn, pc, rfl, h1, h2, h3⟩ := hh
  exact ⟨A, n, c, S, sn, sc, P, pn, pc, rfl, h1.setRow hg us, h2.setRow hg us, h3.setRow hg us⟩
theorem HisO.setCell {w : World} {b : Nat} {v : Value} {h : Hi} (hh : HisO w b v h) {p : Addr} (hp : p.block < b) (u : Value) : HisO (w.setCell p u) b v h := by
  obtain ⟨A, n, c, S, sn, sc, P, pn, pc, rfl, h1, h2, h3⟩ := hh
  exact ⟨A, n, c, S, sn, sc, P, pn, pc, rfl, h1.setCell hp u, h2.setCell hp u, h3.setCell hp u⟩
theorem hist_info : (Try.prog.info? 55).map (·.size) = some 6 := by kernel_rfl
theorem hist_size {cs : Array Value} (h : cs.size = 6) : (Try.prog.info? 55).map (·.size) = some cs.size := by rw [h]; exact hist_info
theorem hisC_one (A : Option Addr) (n c : Nat) (mo at_ : Int) (S : Option Addr) (sn sc : Nat) (P : Option Addr) (pn pc : Nat) (o : Bool) : (hisC A n c mo at_ S sn sc P pn pc o).all (·.oneCell') = true := by
  unfold hisC; simp [Value.oneCell']
theorem gL_take {ls : List (List Int)} {k : Nat} (h : k < ls.length) : ls.take (k + 1) = ls.take k ++ [gL ls k] := by
  rw [List.take_succ_eq_append_getElem h]
  unfold gL
  rw [List.getElem?_eq_getElem h]
  rfl

set_option maxRecDepth 20000 in
set_option maxHeartbeats 4000000 in
theorem hcopied_ok {w : World} {v : Value} {h : Hi} (hv : HisV w v h) (hsm : h.lines.length ≤ 1000) :
    Calls Try.prog 47 #[v] w fun e w' => ∃ u, e = .returned u ∧ HisO w' w.heap.size u h ∧ Ext w w' := by
  obtain ⟨i0, hi, hz0, hz1, hz2⟩ := info_parts info_sl
  obtain ⟨ls, mo, at_, sl, pl, ol⟩ := h
  obtain ⟨A, n, c, S, sn, sc, P, pn, pc, rfl, hL, hA, hS, hP⟩ := hv
  unfold hisC
  simp only at hL hS hP hsm ⊢
  have hn := hL.len
  have HL := Lib.hid hL
  have HS := Lib.hid hS
  have HP := Lib.hid hP
  have hn1 : n ≤ 1000 := by omega
  have HN := Lib.hid hn
  clear hL hS hP hn hsm
  have hb0 : Hid (Blk ((w.alloc (.cells #[.slice none 0 0, .int .i64 mo, .int .i64 at_, .slice S sn sc, .slice P pn pc, .bool ol] 55)).alloc (.cells #[.slice none 0 0, .int .i64 0, .int .i64 0, .slice none 0 0, .slice none 0 0, .bool false] 55)) w.heap.size 55 #[.slice none 0 0, .int .i64 mo, .int .i64 at_, .slice S sn sc, .slice P pn pc, .bool ol]) := Lib.hid ((Blk.new w _ _).ext (Ext.alloc _ _))
  have hb1 : Hid (Blk ((w.alloc (.cells #[.slice none 0 0, .int .i64 mo, .int .i64 at_, .slice S sn sc, .slice P pn pc, .bool ol] 55)).alloc (.cells #[.slice none 0 0, .int .i64 0, .int .i64 0, .slice none 0 0, .slice none 0 0, .bool false] 55)) (w.heap.size + 1) 55 #[.slice none 0 0, .int .i64 0, .int .i64 0, .slice none 0 0, .slice none 0 0, .bool false]) := Lib.hid (by
    have := Blk.new (w.alloc (.cells #[.slice none 0 0, .int .i64 mo, .int .i64 at_, .slice S sn sc, .slice P pn pc, .bool ol] 55)) 55 #[.slice none 0 0, .int .i64 0, .int .i64 0, .slice none 0 0, .slice none 0 0, .bool false]
    rwa [World.size_alloc] at this)
  have hx0 : Hid (Ext w ((w.alloc (.cells #[.slice none 0 0, .int .i64 mo, .int .i64 at_, .slice S sn sc, .slice P pn pc, .bool ol] 55)).alloc (.cells #[.slice none 0 0, .int .i64 0, .int .i64 0, .slice none 0 0, .slice none 0 0, .bool false] 55))) := Lib.hid ((Ext.alloc _ _).to_alloc _)
  have hsz0 : w.heap.size + 2 ≤ ((w.alloc (.cells #[.slice none 0 0, .int .i64 mo, .int .i64 at_, .slice S sn sc, .slice P pn pc, .bool ol] 55)).alloc (.cells #[.slice none 0 0, .int .i64 0, .int .i64 0, .slice none 0 0, .slice none 0 0, .bool false] 55)).heap.size := by simp
  go_enter Try.func47, Try.ntmps47
  go_wp2_with fail
  go_loopw [11] (fun s11 wx => ∃ (k : Nat) (O : Option Addr) (d : Nat), k ≤ n ∧ s11 = .int .i64 k ∧ Hid (Blk wx w.heap.size 55 #[.slice O k d, .int .i64 mo, .int .i64 at_, .slice S sn sc, .slice P pn pc, .bool ol]) ∧ Hid (Blk wx (w.heap.size + 1) 55 #[.slice none 0 0, .int .i64 0, .int .i64 0, .slice none 0 0, .slice none 0 0, .bool false]) ∧ Hid (Ext w wx) ∧ Hid (LnsO wx (w.heap.size + 2) O k d (ls.take k)) ∧ w.heap.size + 2 ≤ wx.heap.size) (fun s11 _ => n - (intOf s11).toNat)
  case atStart => exact ⟨0, none, 0, by omega, rfl, hb0, hb1, hx0, Lib.hid (by simpa using LnsO.nil _ _), hsz0⟩
  case round =>
    clear hb0 hb1 hx0 hsz0
    obtain ⟨k, O, d, hk, rfl, Hb1, Hb2, Hx, HO, hsz⟩ := hrel
    have hgg : w.heap.size < wr.heap.size := by omega
    by_cases hlt : k < n
    · obtain ⟨ad, v, rfl, hc, B, m, q, rfl, hI, hB, hm⟩ := (HL.out.ext Hx.out).at_ hlt
      obtain ⟨xs, hO1, hO2, _⟩ := HO.out
      have HC := Lib.hid (clone_ok (hI.ext (Ext.drew wr)) hB hm)
      obtain ⟨a0, _⟩ := cells6 Hb1.out
      have a1 : wr.drew.cell? ⟨w.heap.size, 0, none⟩ = some (.slice O k d) := a0
      have HO1 := Lib.hid hO1
      have HO2 := Lib.hid hO2
      clear hI hO1 hO2 HO
      go_upto_region 6 with fail
      go_region_law (first
        | (refine step_call rfl 24 #[.slice B m q] (by kernel_rfl) (fun v w' => ∃ B2 d2, v = .slice B2 m d2 ∧ OwnI w' wr.drew.heap.size B2 m d2 (gL ls k) ∧ (B2 = none → d2 = 0) ∧ Ext wr.drew w') (HC.out.mono fun e w' ⟨B2, d2, h1, h2⟩ => ⟨_, h1, B2, d2, rfl, h2⟩) ?_
           rintro v w2 ⟨B2, q2, rfl, hoc, hnc, hec⟩
           have b1 := hec.cell a1
           have b2 : (w2.alloc (.cells #[.slice B2 m q2] 22)).cell? ⟨w.heap.size, 0, none⟩ = some (.slice O k d) := Ext.cell (Ext.alloc _ _) b1)
        | (refine step_put rfl (.tmp 16) (.tmp 19) 53 rfl w (w.heap.size + 2) 22 i0 _ 1 24 Try.underlying53 hi hz0 hz1 hz2 rfl (by decide) O k d xs rfl (Own.ext HO1.out ((Ext.drew wr).trans hec)) #[.slice B2 m q2] rfl (by simp [Value.oneCell']) rfl (by unfold maxLen; omega) (by omega) (Hx.out.trans ((Ext.drew wr).trans hec)) (by omega) (Nat.le_trans hsz (Nat.le_trans (Ext.hsize (Ext.drew wr)) hec.hsize)) ?_
           intro O3 d3 w3 hO3 hgr hor hx3
           have hb3 := Blk.grown (Blk.ext Hb1.out ((Ext.drew wr).trans hec)) hgr (fun e => by have := (Own.blk HO1.out _ e.symm).1; omega)
           have c0 := hb3.cell 0
           have f0 := hb3.frozen 0
           simp only [List.getElem?_toArray, List.getElem?_cons_zero] at c0))
      all_goals
        have he2 := (Ext.drew wr).trans hec
        have hz2' : wr.heap.size ≤ w2.heap.size := he2.hsize
        have hOb : ∀ g, (Value.slice O k d).ownBlock = some g → g < wr.heap.size := fun g hg => (Own.blk HO1.out g hg).2
        have hn0 : ∀ g, (Value.slice B2 m q2).ownBlock = some g → wr.heap.size ≤ g ∧ g < w2.heap.size := fun g hg => Own.blk hoc g hg
        have hrow : (Value.slice B2 m q2).ownBlock = none ∨ (Value.slice B2 m q2).ownBlock ≠ (Value.slice O k d).ownBlock := by
          cases hb : (Value.slice B2 m q2).ownBlock with
          | none => exact .inl rfl
          | some g => exact .inr (fun e => by have h1 := hn0 g hb; have h2 := hOb g e.symm; omega)
        have hrow' : (Value.slice B2 m q2).ownBlock = none ∨ (Value.slice B2 m q2).ownBlock ≠ (Value.slice O3 (k + 1) d3).ownBlock := by
          cases hb : (Value.slice B2 m q2).ownBlock with
          | none => exact .inl rfl
          | some g => exact .inr (fun e => by
              have h1 := hn0 g hb
              rcases hor with h2 | ⟨g', h2, h3⟩
              · rw [h2] at e; have := hOb g e.symm; omega
              · rw [h3] at e; injection e with e; omega)
        have hnew : RegOw w3 (w.heap.size + 2) (.slice B2 m q2) (gL ls k) := ⟨B2, m, q2, rfl, Own.kept (Own.lower hoc (Nat.le_trans hsz (Nat.le_refl _))) hgr hrow, hnc, hm⟩
        have hold : LnO w3 (w.heap.size + 2) (Value.slice O3 (k + 1) d3).ownBlock xs (ls.take k) := (HO2.out.ext he2).grown hgr hor
        have hall : LnsO w3 (w.heap.size + 2) O3 (k + 1) d3 (ls.take (k + 1)) := ⟨xs ++ [.slice B2 m q2], by simpa using hO3, by rw [gL_take (by rw [HN.out]; exact hlt)]; exact hold.snoc hnew hrow', Own.nocap' hO3⟩
        have HLn := Lib.hid (hall.setCell (p := ⟨w.heap.size, 0, none⟩) (show w.heap.size < w.heap.size + 2 by omega) (.slice O3 (k + 1) d3))
        have HB1 : Hid (Blk (w3.setCell ⟨w.heap.size, 0, none⟩ (.slice O3 (k + 1) d3)) w.heap.size 55 #[.slice O3 (k + 1) d3, .int .i64 mo, .int .i64 at_, .slice S sn sc, .slice P pn pc, .bool ol]) := Lib.hid (hb3.set_ 0 (.slice O3 (k + 1) d3))
        have HB2 := Lib.hid (set_other (Blk.grown (Blk.ext Hb2.out he2) hgr (fun e => by have := (Own.blk HO1.out _ e.symm).1; omega)) (show w.heap.size ≠ w.heap.size + 1 by omega) 0 (.slice O3 (k + 1) d3))
        have HX3 := Lib.hid (hx3.setCell (p := ⟨w.heap.size, 0, none⟩) (Nat.le_refl _) (.slice O3 (k + 1) d3))
        have hsz3 : w.heap.size + 2 ≤ (w3.setCell ⟨w.heap.size, 0, none⟩ (.slice O3 (k + 1) d3)).heap.size := HB2.out.lt
        clear hO3 hgr hor hx3 hb3 c0 f0 hoc hnc hec b1 b2 he2 hz2' hOb hn0 hrow hrow' hnew hold hall a0 a1 HO1 HO2 Hb1 Hb2 Hx HC hc hB hm hsz hgg
        go_wp2_with fail
        go_roundw
        case rel => exact ⟨k + 1, O3, d3, by omega, by go_num, HB1, HB2, HX3, HLn, hsz3⟩
        case measure => simp [intOf]; omega
    · obtain rfl : k = n := by omega
      rw [List.take_of_length_le (by rw [HN.out]; exact Nat.le_refl _)] at HO
      obtain ⟨B3, m3, q3, hh3, hI3, hB3, hm3⟩ := HS.out.ext Hx.out
      injection hh3 with h1 h2 h3
      subst h1; subst h2; subst h3
      obtain ⟨B4, m4, q4, hh4, hI4, hB4, hm4⟩ := HP.out.ext Hx.out
      injection hh4 with h1 h2 h3
      subst h1; subst h2; subst h3
      obtain ⟨_, _, _, k3, k4, _⟩ := cells6 Hb1.out
      have d3' : wr.drew.cell? ⟨w.heap.size, 3, none⟩ = some (.slice S sn sc) := k3
      have d4' : wr.drew.cell? ⟨w.heap.size, 4, none⟩ = some (.slice P pn pc) := k4
      have HC3 := Lib.hid (clone_ok (hI3.ext (Ext.drew wr)) hB3 hm3)
      have HC4 : Hid (∀ wq, Ext wr wq → Calls Try.prog 24 #[.slice P pn pc] wq fun e w' => ∃ B d, e = .returned (.slice B pn d) ∧ OwnI w' wq.heap.size B pn d pl ∧ (B = none → d = 0) ∧ Ext wq w') := Lib.hid (fun wq he => clone_ok (hI4.ext he) hB4 hm4)
      clear hI3 hI4
      go_upto_region 8 with fail
      go_region_law (first
        | (refine step_call rfl 24 #[.slice S sn sc] (by kernel_rfl) (fun v w' => ∃ B2 d2, v = .slice B2 sn d2 ∧ OwnI w' wr.drew.heap.size B2 sn d2 sl ∧ (B2 = none → d2 = 0) ∧ Ext wr.drew w') (HC3.out.mono fun e w' ⟨B2, d2, h1, h2⟩ => ⟨_, h1, B2, d2, rfl, h2⟩) ?_
           rintro v w2 ⟨B5, q5, rfl, ho5, hn5, he5⟩
           have e3 := he5.cell d3'
           have e4 := he5.cell d4')
        | (refine step_call rfl 24 #[.slice P pn pc] (by kernel_rfl) (fun v w' => ∃ B2 d2, v = .slice B2 pn d2 ∧ OwnI w' w2.heap.size B2 pn d2 pl ∧ (B2 = none → d2 = 0) ∧ Ext w2 w') ((HC4.out _ ((Ext.drew wr).trans he5)).mono fun e w' ⟨B2, d2, h1, h2⟩ => ⟨_, h1, B2, d2, rfl, h2⟩) ?_
           rintro v w3 ⟨B6, q6, rfl, ho6, hn6, he6⟩
           have hb3 := Blk.ext (Blk.ext Hb1.out ((Ext.drew wr).trans he5)) he6
           obtain ⟨_, _, _, c3, c4, _⟩ := cells6 hb3
           have f3 := hb3.frozen 3
           have f4 := hb3.frozen 4))
      all_goals
        have hend : Blk ((w3.setCell ⟨w.heap.size, 3, none⟩ (.slice B5 sn q5)).setCell ⟨w.heap.size, 4, none⟩ (.slice B6 pn q6)) w.heap.size 55 (hisC O k d mo at_ B5 sn q5 B6 pn q6 ol) := (hb3.set_ 3 (.slice B5 sn q5)).set_ 4 (.slice B6 pn q6)
        have he7 := ((Ext.drew wr).trans he5).trans he6
        have hb2' := set_other (set_other (Blk.ext Hb2.out he7) (show w.heap.size ≠ w.heap.size + 1 by omega) 3 (.slice B5 sn q5)) (show w.heap.size ≠ w.heap.size + 1 by omega) 4 (.slice B6 pn q6)
        have hX7 : Ext w ((w3.setCell ⟨w.heap.size, 3, none⟩ (.slice B5 sn q5)).setCell ⟨w.heap.size, 4, none⟩ (.slice B6 pn q6)) := ((Hx.out.trans he7).setCell (p := ⟨w.heap.size, 3, none⟩) (Nat.le_refl _) _).setCell (p := ⟨w.heap.size, 4, none⟩) (Nat.le_refl _) _
        have hO7 : HisO ((w3.setCell ⟨w.heap.size, 3, none⟩ (.slice B5 sn q5)).setCell ⟨w.heap.size, 4, none⟩ (.slice B6 pn q6)) (w.heap.size + 2) (.agg (hisC O k d mo at_ B5 sn q5 B6 pn q6 ol)) ⟨ls, mo, at_, sl, pl, ol⟩ := by
          have hlt1 : w.heap.size < w.heap.size + 2 := by omega
          refine ⟨O, k, d, B5, sn, q5, B6, pn, q6, rfl, ((HO.out.ext he7).setCell (p := ⟨w.heap.size, 3, none⟩) hlt1 _).setCell (p := ⟨w.heap.size, 4, none⟩) hlt1 _, ?_, ?_⟩
          · have h5 : RegOw w3 (w.heap.size + 2) (.slice B5 sn q5) sl := ⟨B5, sn, q5, rfl, (Own.lower ho5 (Nat.le_trans hsz (Nat.le_refl _))).ext he6, hn5, hm3⟩
            exact (h5.setCell (p := ⟨w.heap.size, 3, none⟩) hlt1 _).setCell (p := ⟨w.heap.size, 4, none⟩) hlt1 _
          · have h6 : RegOw w3 (w.heap.size + 2) (.slice B6 pn q6) pl := ⟨B6, pn, q6, rfl, Own.lower ho6 (Nat.le_trans hsz ((Ext.drew wr).trans he5).hsize), hn6, hm4⟩
            exact (h6.setCell (p := ⟨w.heap.size, 3, none⟩) hlt1 _).setCell (p := ⟨w.heap.size, 4, none⟩) hlt1 _
        have HE := Lib.hid hend
        have H2 := Lib.hid hb2'
        have HX := Lib.hid hX7
        have HO7 := Lib.hid hO7
        clear hend hb2' hX7 hO7 he7 c3 c4 f3 f4 hb3 ho6 hn6 he6 ho5 hn5 he5 e3 e4 HC3 HC4 d3' d4' k3 k4 Hb1 Hb2 Hx HO
        generalize (w3.setCell ⟨w.heap.size, 3, none⟩ (.slice B5 sn q5)).setCell ⟨w.heap.size, 4, none⟩ (.slice B6 pn q6) = W at *
        have hone : (hisC O k d mo at_ B5 sn q5 B6 pn q6 ol).all (·.oneCell') = true := hisC_one ..
        have hz6 : (hisC O k d mo at_ B5 sn q5 B6 pn q6 ol).size = 6 := rfl
        have hZO : Hid (HisO (W.setRow (w.heap.size + 1) (hisC O k d mo at_ B5 sn q5 B6 pn q6 ol)) w.heap.size (.agg (hisC O k d mo at_ B5 sn q5 B6 pn q6 ol)) ⟨ls, mo, at_, sl, pl, ol⟩) := Lib.hid ((HO7.out.setRow (show w.heap.size + 1 < w.heap.size + 2 by omega) _).lower (by omega))
        have hZX := Lib.hid (HX.out.setRow (show w.heap.size ≤ w.heap.size + 1 by omega) (hisC O k d mo at_ B5 sn q5 B6 pn q6 ol))
        have hres := Lib.hid (H2.out.setRow (hisC O k d mo at_ B5 sn q5 B6 pn q6 ol))
        generalize hcs : hisC O k d mo at_ B5 sn q5 B6 pn q6 ol = cs at *
        clear hcs
        have hsz6 : (#[.slice none 0 0, .int .i64 0, .int .i64 0, .slice none 0 0, .slice none 0 0, .bool false] : Array Value).size = cs.size := by rw [hz6]; rfl
        have Hz6 := Lib.hid hz6
        have Hone := Lib.hid hone
        have Hsz6 := Lib.hid hsz6
        clear hz6 hone hsz6
        go_wp2_with (first | (refine wpList_load_row rfl 55 (.tmp 1) rfl w.heap.size rfl 55 cs (0, 0) _ HE.out Try.underlying55 rfl (hist_size Hz6.out) ?_) | (refine wpList_store_row rfl 55 (.tmp 2) (.tmp 31) rfl (w.heap.size + 1) cs rfl rfl 55 _ H2.out (hist_size Hz6.out) Hsz6.out Hone.out ?_))
        refine bodyPost_ret (v := .agg cs) ?_ rfl ⟨_, rfl, hZO.out, hZX.out⟩
        exact results_cell_row rfl _ _ (w.heap.size + 1) 55 _ _ _ rfl hres.out Try.underlying55 rfl (hist_size Hz6.out)
end Go.Proofs.Ytbhbakejpgndmaa
