/-
  The walk of hist.Add, on HisA's words.
-/
import Derived.Test.YtbhbakejpgndmaaHisA
import Derived.Deep.CutRange
namespace Go.Proofs.Ytbhbakejpgndmaa
open Go.RowKit
set_option linter.unusedVariables false
set_option linter.unusedSimpArgs false

set_option maxRecDepth 20000 in
set_option maxHeartbeats 8000000 in
theorem add_ok {w : World} {v : Value} {h : Hi} {N : Option Addr} {q y : Nat} {line : List Int} (hv : HisV w v h) (hln : Ints w N q y line) (hN : N = none → y = 0) :
    Calls Try.prog 33 #[v, .slice N q y] w (Adds h line w) := by
  obtain ⟨i0, hi, hz0, hz1, hz2⟩ := info_parts info_sl
  have HI := Lib.hid hi
  clear hi
  have HV := Lib.hid hv
  obtain ⟨A, n, c, S, sn, sc, P, pn, pc, rfl, hn, hnm⟩ := hv.cells
  obtain ⟨ls, mo, at_, sl, pl, ol⟩ := h
  simp only at hn ⊢
  have HN := Lib.hid hn
  have HLn := Lib.hid hln
  have hql := Lib.hid hln.len
  have hqm := Nat.le_trans hln.ncap hln.nmax
  have hb0 := Lib.hid ((Blk.new w 55 (hisC A n c mo at_ S sn sc P pn pc ol)).ext (Ext.alloc _ (.cells hisZ 55)))
  have hb1 : Hid (Blk ((w.alloc (.cells (hisC A n c mo at_ S sn sc P pn pc ol) 55)).alloc (.cells hisZ 55)) (w.heap.size + 1) 55 hisZ) := Lib.hid (by
    have := Blk.new (w.alloc (.cells (hisC A n c mo at_ S sn sc P pn pc ol) 55)) 55 hisZ
    rwa [World.size_alloc] at this)
  have hx0 : Hid (Ext w ((w.alloc (.cells (hisC A n c mo at_ S sn sc P pn pc ol) 55)).alloc (.cells hisZ 55))) := Lib.hid ((Ext.alloc _ _).to_alloc _)
  have HR := Lib.hid (hcheck_ok (HV.out.ext hx0.out))
  have hsz0 : Hid (w.heap.size + 2 ≤ ((w.alloc (.cells (hisC A n c mo at_ S sn sc P pn pc ol) 55)).alloc (.cells hisZ 55)).heap.size) := Lib.hid (by simp)
  unfold maxLen at hnm hqm
  clear hv hn hln
  unfold hisC hisZ at *
  go_enter Try.func33, Try.ntmps33
  go_wp2_with fail
  refine HR.out.mono ?_
  rintro e w1 ⟨x, rfl, hck, he1⟩
  have hx1 := Lib.hid (hx0.out.trans he1)
  have B3 := Lib.hid (Blk.ext hb0.out he1)
  have B6 := Lib.hid (Blk.ext hb1.out he1)
  have hsz1 : w.heap.size + 2 ≤ w1.heap.size := Nat.le_trans hsz0.out he1.hsize
  have HK := Lib.hid hck
  obtain ⟨k0, k1, k2, k3, k4, k5⟩ := cells6 B3.out
  obtain ⟨d0, d1, d2, d3, d4, d5⟩ := cells6 B6.out
  obtain ⟨f0, f1, f2, f3, f4, f5⟩ := frozen6 B6.out
  have HX := Lib.hid (st6_ext hx1.out (show w.heap.size ≤ w.heap.size + 1 by omega) (.slice none 0 0) (.int .i64 0) (.int .i64 0) (.slice none 0 0) (.slice none 0 0) (.bool false))
  have hfin := Lib.hid (st6_blk B6.out (.slice none 0 0) (.int .i64 0) (.int .i64 0) (.slice none 0 0) (.slice none 0 0) (.bool false))
  unfold st6 at HX hfin
  clear HR hb0 hb1 hx0 he1 hck hsz0
  by_cases hx0 : x = 0
  case neg =>
    have hxb : (x != 0) = true := by simpa using hx0
    have hno : Hid (¬ AOk ⟨ls, mo, at_, sl, pl, ol⟩ line) := Lib.hid (fun hh => by
      rcases HK.out with ⟨h1, _⟩ | ⟨_, h1, _⟩ | ⟨_, _, h1⟩
      · exact hh.1 h1
      · exact hh.2.1 h1
      · exact hx0 h1)
    have hx0' := Lib.hid hx0
    clear hx0 HK
    go_wp2_with fail
    refine bodyPost_ret (v := .tuple #[.agg hisZ, .int .i64 x]) ?_ rfl ⟨HX.out, .inr ⟨hno.out, x, rfl, hx0'.out⟩⟩
    exact results_row_tmp1 rfl _ _ (w.heap.size + 1) 55 _ _ _ _ rfl rfl hfin.out Try.underlying55 rfl (hist_size rfl)
  case pos =>
    subst hx0
    have HB := Lib.hid (HK.out.zero rfl)
    by_cases ht2 : (200 : Int) < (q : Int)
    · have hno : Hid (¬ AOk ⟨ls, mo, at_, sl, pl, ol⟩ line) := Lib.hid (fun hh => by have := hh.2.2; have := hql.out; omega)
      clear HK HB
      go_wp2_with fail
      refine bodyPost_ret (v := .tuple #[.agg hisZ, .int .i64 2]) ?_ rfl ⟨HX.out, .inr ⟨hno.out, 2, rfl, by omega⟩⟩
      exact results_row_tmp1 rfl _ _ (w.heap.size + 1) 55 _ _ _ _ rfl rfl hfin.out Try.underlying55 rfl (hist_size rfl)
    · have hg1 := HB.out.1
      unfold Hi.bad at hg1
      simp only at hg1
      rw [HN.out] at hg1
      obtain ⟨a, rfl⟩ : ∃ a : Nat, at_ = a := ⟨at_.toNat, by omega⟩
      obtain ⟨room, rfl⟩ : ∃ room : Nat, mo = room := ⟨mo.toNat, by omega⟩
      have hr1 : 1 ≤ room := by omega
      have hr2 : room ≤ 50 := by omega
      have hn50 : n ≤ 50 := by omega
      have ht4 : q ≤ 200 := by omega
      have ht5 : decide ((200 : Int) < (q : Int)) = false := by simp; omega
      have HOK : Hid (AOk ⟨ls, (room : Int), (a : Int), sl, pl, ol⟩ line) := Lib.hid ⟨HB.out.1, HB.out.2, by rw [hql.out]; exact ht4⟩
      have HC := Lib.hid (hcopied_ok (HV.out.ext hx1.out) (by simp only; rw [HN.out]; omega))
      clear hg1 HK HB ht2 HX hfin d0 d1 d2 d3 d4 d5 f0 f1 f2 f3 f4 f5
      go_wp2_with fail
      refine HC.out.mono ?_
      rintro e w2 ⟨u, rfl, hO, he2⟩
      obtain ⟨O, n', d, S', sn', sc', P', pn', pc', rfl, hOL, hOS, hOP⟩ := hO
      unfold hisC
      simp only at hOL hOP ⊢
      obtain rfl : n' = n := by rw [← hOL.lns.len]; exact HN.out
      have HX2 := Lib.hid (hx1.out.trans he2)
      have B62 := Lib.hid (Blk.ext B6.out he2)
      have hsz2 : w.heap.size + 2 ≤ w2.heap.size := Nat.le_trans hsz1 he2.hsize
      have HOL := Lib.hid (hOL.lower (show w.heap.size + 2 ≤ w1.heap.size from hsz1))
      have HOP := Lib.hid (hOP.lower (show w.heap.size + 2 ≤ w1.heap.size from hsz1))
      have B32 := Lib.hid (Blk.ext B3.out he2)
      clear HC hOL hOS hOP he2 k0 k1 k2 k3 k4 k5 B3 B6 hx1 HV
      go_upto_region 7 with fail
      have b7 := Lib.hid (Blk.new w2 55 #[.slice O n' d, .int .i64 (room : Int), .int .i64 (a : Int), .slice S' sn' sc', .slice P' pn' pc', .bool ol])
      have hxa := Lib.hid (Ext.alloc w2 (.cells #[.slice O n' d, .int .i64 (room : Int), .int .i64 (a : Int), .slice S' sn' sc', .slice P' pn' pc', .bool ol] 55))
      have hszW : Hid ((w2.alloc (.cells #[.slice O n' d, .int .i64 (room : Int), .int .i64 (a : Int), .slice S' sn' sc', .slice P' pn' pc', .bool ol] 55)).heap.size = w2.heap.size + 1) := Lib.hid (by simp)
      change Code.wp _ _ _ _ (w2.alloc (.cells #[.slice O n' d, .int .i64 (room : Int), .int .i64 (a : Int), .slice S' sn' sc', .slice P' pn' pc', .bool ol] 55))
      generalize w2.alloc (.cells #[.slice O n' d, .int .i64 (room : Int), .int .i64 (a : Int), .slice S' sn' sc', .slice P' pn' pc', .bool ol] 55) = W at *
      have HON : Hid (LnsN W (w.heap.size + 2) [w2.heap.size, W.heap.size, W.heap.size + 1] O n' d ls) := Lib.hid ((HOL.out.apart (fun k h1 h2 hm => by have := hszW.out; simp at hm; omega)).ext hxa.out)
      have HOPW := Lib.hid (HOP.out.ext hxa.out)
      have HPb : Hid (∀ k, (Value.slice P' pn' pc').ownBlock = some k → k ∉ [w2.heap.size, W.heap.size, W.heap.size + 1]) := Lib.hid (fun k hk hm => by have := (HOP.out.blk k hk).2; have := hszW.out; simp at hm; omega)
      have HB6 := Lib.hid (Blk.ext B62.out hxa.out)
      have HXW := Lib.hid (HX2.out.trans hxa.out)
      have B3W := Lib.hid (Blk.ext B32.out hxa.out)
      have hg7 : w2.heap.size < W.heap.size := by have := hszW.out; omega
      clear HOL HOP B62 HX2 hxa B32
      generalize w2.heap.size = g7 at *
      go_upto_if 25 with fail
      go_cut [] (fun wx => ∃ (O4 : Option Addr) (n4 c4 : Nat), Hid (Blk wx g7 55 #[.slice O4 n4 c4, .int .i64 (room : Int), .int .i64 (a : Int), .slice S' sn' sc', .slice P' pn' pc', .bool ol]) ∧ Hid (LnsN wx (w.heap.size + 2) [g7] O4 n4 c4 (addLs ⟨ls, (room : Int), (a : Int), sl, pl, ol⟩ line)) ∧ Hid (RegOw wx (w.heap.size + 2) (.slice P' pn' pc') pl) ∧ Hid (Blk wx (w.heap.size + 1) 55 #[.slice none 0 0, .int .i64 0, .int .i64 0, .slice none 0 0, .slice none 0 0, .bool false]) ∧ Hid (Ext w wx) ∧ n4 ≤ 1000 ∧ g7 < wx.heap.size)
      case first =>
        cases hb : decide (0 < q)
        · have hla : Hid (addLs ⟨ls, (room : Int), (a : Int), sl, pl, ol⟩ line = ls) := Lib.hid (by unfold addLs; rw [if_pos (by rw [hql.out]; simp at hb; omega)])
          clear hb
          go_wp2_with fail
          go_meet
          exact ⟨O, n', d, b7, Lib.hid (by rw [hla.out]; exact HON.out.fewer (fun k hk => by simp at hk; simp [hk])), HOPW, HB6, HXW, by omega, hg7⟩
        · have hq0 : 0 < q := by simp at hb; omega
          have hla : Hid (addLs ⟨ls, (room : Int), (a : Int), sl, pl, ol⟩ line = lastN room (ls ++ [line])) := Lib.hid (by unfold addLs; rw [if_neg (by rw [hql.out]; omega)]; rfl)
          have HNew := Lib.hid (RS.ringNew_ok (room : Int) room (.inr (.inl ⟨by omega, by omega, rfl⟩)) W)
          obtain ⟨_, c31, _⟩ := cells6 B3W.out
          clear hb
          go_wp2_with fail
          refine HNew.out.mono ?_
          rintro e w4 ⟨rfl, hR, he4⟩
          have HR4 := Lib.hid hR
          have HON4 := Lib.hid (HON.out.ext he4)
          obtain ⟨xs, hO1, hO2, _, hO4, hO5⟩ := HON4.out
          have HO1 := Lib.hid hO1
          have HO2 := Lib.hid hO2
          have HO4 := Lib.hid hO4
          have HO5 := Lib.hid hO5
          have HX4 := Lib.hid (HXW.out.trans he4)
          have b74 := Lib.hid (Blk.ext b7.out he4)
          have B64 := Lib.hid (Blk.ext HB6.out he4)
          have HPW4 := Lib.hid (HOPW.out.ext he4)
          have hz4 : W.heap.size + 1 < w4.heap.size := hR.1.lt
          have HC := Lib.hid (clone_ok (HLn.out.ext (HX4.out.trans (Ext.drew w4))) hN (by omega))
          obtain ⟨a0, _⟩ := cells6 b74.out
          have a1 : w4.drew.cell? ⟨g7, 0, none⟩ = some (.slice O n' d) := a0
          clear HNew hR he4 hO1 hO2 hO4 hO5 HON4 HON HXW b7 HB6 HOPW c31 a0 B3W
          go_upto_region 9 with fail
          go_region_law (first
            | (refine step_call rfl 24 #[.slice N q y] (by kernel_rfl) (fun v w' => ∃ B2 d2, v = .slice B2 q d2 ∧ OwnI w' w4.drew.heap.size B2 q d2 line ∧ (B2 = none → d2 = 0) ∧ Ext w4.drew w') (HC.out.mono fun e w' ⟨B2, d2, h1, h2⟩ => ⟨_, h1, B2, d2, rfl, h2⟩) ?_
               rintro v w5 ⟨B2, q2, rfl, hoc, hnc, hec⟩
               have b1 := hec.cell a1
               have b2 : (w5.alloc (.cells #[.slice B2 q q2] 22)).cell? ⟨g7, 0, none⟩ = some (.slice O n' d) := Ext.cell (Ext.alloc _ _) b1)
            | (refine step_put rfl (.tmp 30) (.tmp 33) 53 rfl w (w.heap.size + 2) 22 i0 _ 1 24 Try.underlying53 HI.out hz0 hz1 hz2 rfl (by decide) O n' d xs rfl (Own.ext HO1.out ((Ext.drew w4).trans hec)) #[.slice B2 q q2] rfl (by simp [Value.oneCell']) rfl (by unfold maxLen; omega) (by omega) (HX4.out.trans ((Ext.drew w4).trans hec)) (by omega) (Nat.le_trans (show w.heap.size + 2 ≤ w4.heap.size by omega) ((Ext.drew w4).trans hec).hsize) ?_
               intro O3 d3 w6 hO3 hgr hor hx3))
          all_goals
            have he5 := (Ext.drew w4).trans hec
            have hz5 : w4.heap.size ≤ w5.heap.size := he5.hsize
            have hclone : RegOw w5 (w.heap.size + 2) (.slice B2 q q2) line := ⟨B2, q, q2, rfl, Own.lower hoc (show w.heap.size + 2 ≤ w4.heap.size by omega), hnc, by omega⟩
            have hcb : ∀ k, (Value.slice B2 q q2).ownBlock = some k → w4.heap.size ≤ k ∧ k ∉ [g7, W.heap.size, W.heap.size + 1] := fun k hk => by
              have h1 : w4.heap.size ≤ k := (Own.blk hoc k hk).1
              exact ⟨h1, fun hm => by simp at hm; omega⟩
            have HL6 := Lib.hid (lns_snoc HO1.out HO2.out HO4.out HO5.out (fun k hk => by simp at hk; omega) he5 hclone hcb hO3 hgr hor)
            have HE56 := Lib.hid (Eqv.grown (N := (Value.slice O n' d).ownBlock.toList) hgr (fun k hk => by rw [hk]; simp))
            have HR6 := Lib.hid ((HR4.out.ext he5).grown hgr (fun e => HO4.out _ e.symm (by simp)) (fun e => HO4.out _ e.symm (by simp)))
            have B76 := Lib.hid (Blk.grown (Blk.ext b74.out he5) hgr (fun e => HO4.out _ e.symm (by simp)))
            have B66 := Lib.hid (Blk.grown (Blk.ext B64.out he5) hgr (fun e => by have := (Own.blk HO1.out _ e.symm).1; omega))
            have HP6 : Hid (RegOw w6 (w.heap.size + 2) (.slice P' pn' pc') pl) := Lib.hid (by
              obtain ⟨P1, p1, p2, hh, k1, k2⟩ := HPW4.out.ext he5
              injection hh with e1 e2 e3
              subst e1; subst e2; subst e3
              refine ⟨P', pn', pc', rfl, Own.kept k1 hgr ?_, k2⟩
              cases hb : (Value.slice P' pn' pc').ownBlock with
              | none => exact .inl rfl
              | some g => exact .inr (fun e => Own.unlike k1 (Own.ext HO1.out he5) (by decide) g hb e.symm))
            have HX6 := Lib.hid hx3
            obtain ⟨xs6, hO61, hO62, _, hO64, hO65⟩ := HL6.out
            obtain ⟨lv, hlv⟩ := sls_of hO62.lnv
            have hlvn : Hid (lv.length = n' + 1) := Lib.hid (by have := hO61.len; rw [← hlv] at this; simpa using this)
            have HLV := Lib.hid hlv
            have HO61 := Lib.hid hO61
            have HO62 := Lib.hid hO62
            have HO64 := Lib.hid hO64
            have HO65 := Lib.hid hO65
            have HH6 : Hid (RS.Held w6 (W.heap.size + 1) W.heap.size room lv 0) := Lib.hid ⟨0, _, by simpa using HR6.out, RS.slots_start _ _ (by simp), fun _ => by simp⟩
            have hz6 : W.heap.size + 1 < w6.heap.size := HR6.out.1.lt
            have hbase6 : w.heap.size + 2 ≤ w6.heap.size := by omega
            clear HC a1 b1 b2 hoc hnc hec hO3 hgr hor hx3 he5 hclone hcb HR4 HO1 HO2 HO4 HO5 HX4 b74 B64 HPW4 HR6 HE56 hO61 hO62 hO64 hO65 hlv hz5 HL6
            go_simp
            go_wp2_with fail
            go_loopw [36] (fun s36 wr => ∃ j : Nat, s36 = .int .i64 (j : Int) ∧ j ≤ n' + 1 ∧ Hid (RS.Held wr (W.heap.size + 1) W.heap.size room lv j) ∧ Hid (Eqv [W.heap.size, W.heap.size + 1] w6 wr) ∧ Hid (Ext w wr)) (fun s36 _ => n' + 1 - (intOf s36).toNat)
            case atStart => exact ⟨0, rfl, by omega, HH6, Lib.hid (Eqv.refl _ _), HX6⟩
            case round =>
              obtain ⟨j, rfl, hj, HHr, HEr, HXr⟩ := hrel
              have hO6r := Own.eqv HO61.out HEr.out (fun k hk hm => HO64.out k hk (by simp at hm; simp; omega))
              by_cases hlt : j < n' + 1
              · obtain ⟨ad, rfl, hc⟩ := (Own.rd hO6r).at_ hlt
                have hcj : wr.cell? (ad.add j) = some (.slice (RS.gS lv j).a (RS.gS lv j).n (RS.gS lv j).c) := hc j _ (by
                  rw [← HLV.out]
                  have h1 : j < lv.length := by rw [hlvn.out]; exact hlt
                  simp [RS.gS, RS.Sl.v, h1])
                have HPu := Lib.hid (RS.push_held HHr.out (by omega))
                clear hc hO6r
                go_wp2_with fail
                refine HPu.out.mono ?_
                rintro e w7 ⟨rfl, hH7, hP7⟩
                have hsv : Eqv [W.heap.size, W.heap.size + 1] wr w7 ∧ Ext w w7 := by
                  rcases hP7 with rfl | hP
                  · exact ⟨Eqv.refl _ _, HXr.out⟩
                  · refine ⟨?_, hP.ext HXr.out (by omega) (by omega)⟩
                    obtain ⟨x, p, i, u, rfl⟩ := hP
                    exact ((Eqv.setCell wr _ _ (by simp)).trans ((Ext.drew _).eqv _)).trans (Eqv.setCell _ _ _ (by simp))
                have H1 := Lib.hid hH7
                have H2 := Lib.hid (HEr.out.trans hsv.1)
                have H3 := Lib.hid hsv.2
                clear HPu hH7 hP7 hsv HHr HEr HXr hcj
                go_wp2_with fail
                go_roundw
                case rel => exact ⟨j + 1, by go_num, by omega, H1, H2, H3⟩
                case measure => simp [intOf]; omega
              · obtain rfl : j = n' + 1 := by omega
                have hzr : w6.heap.size ≤ wr.heap.size := HEr.out.1
                have HO62r := Lib.hid (HO62.out.eqv HEr.out (fun i v hv k hk hm => HO65.out i v hv k hk (by simp at hm; simp; omega)))
                have B7r := Lib.hid (Blk.eqv B76.out HEr.out (fun hm => by simp at hm; omega))
                have B6r := Lib.hid (Blk.eqv B66.out HEr.out (fun hm => by simp at hm; omega))
                have HPr := Lib.hid (RegOw.eqv HP6.out HEr.out (fun k hk hm => HPb.out k hk (by simp at hm; simp; omega)))
                obtain ⟨f, ss, hRA, hsl, hff⟩ := HHr.out
                have hfl : f < room := by rw [hff (by omega)]; exact Nat.mod_lt _ (by omega)
                have HLi := Lib.hid (RS.ringList_ok hRA hsl.1 (Nat.min_le_right _ _) (.inl hfl) (by omega))
                have hll : Hid (RS.ringL ss room f (min (n' + 1) room) = lv.drop (lv.length - min lv.length room)) := Lib.hid (by
                  have h1 : RS.slotsOk lv ss room lv.length := by rw [hlvn.out]; exact hsl
                  have h2 : 0 < room → f = (lv.length - min lv.length room) % room := by rw [hlvn.out]; exact hff
                  have := RS.held_list h1 h2
                  rw [hlvn.out] at this ⊢
                  exact this)
                clear hRA hsl hff hfl HHr HEr hlt hO6r
                go_wp2_with fail
                refine HLi.out.mono ?_
                rintro e w8 ⟨A8, c8, rfl, hO8, he8⟩
                rw [hll.out] at hO8
                have HL8 := Lib.hid (lns_last (M := [g7]) HO62r.out HO65.out HLV.out he8 hO8 rfl (by omega) (fun k hk => by simp at hk; subst hk; exact ⟨by simp, by omega⟩))
                have B78 := Lib.hid (Blk.ext B7r.out he8)
                have B68 := Lib.hid (Blk.ext B6r.out he8)
                have HP8 := Lib.hid (HPr.out.ext he8)
                have HX8 := Lib.hid (HXr.out.trans he8)
                have hE8 := Eqv.setCell (N := [g7]) w8 ⟨g7, 0, none⟩ (.slice A8 (min (n' + 1) room) c8) (by simp)
                have R1 := Lib.hid (B78.out.set_ 0 (.slice A8 (min (n' + 1) room) c8))
                have R2 : Hid (LnsN (w8.setCell ⟨g7, 0, none⟩ (.slice A8 (min (n' + 1) room) c8)) (w.heap.size + 2) [g7] A8 (min (n' + 1) room) c8 (addLs ⟨ls, (room : Int), (a : Int), sl, pl, ol⟩ line)) := Lib.hid (by
                  rw [hla.out]
                  have h1 : (ls ++ [line]).length = lv.length := by rw [hlvn.out]; simp [HN.out]
                  unfold lastN
                  rw [h1]
                  exact HL8.out.eqv hE8)
                have R3 := Lib.hid (HP8.out.eqv hE8 (fun k hk hm => HPb.out k hk (by simp at hm; simp [hm])))
                have R4 := Lib.hid (Blk.eqv B68.out hE8 (fun hm => by simp at hm; omega))
                have R5 := Lib.hid (HX8.out.setCell (p := ⟨g7, 0, none⟩) (show w.heap.size ≤ g7 by omega) (.slice A8 (min (n' + 1) room) c8))
                have R7 : g7 < (w8.setCell ⟨g7, 0, none⟩ (.slice A8 (min (n' + 1) room) c8)).heap.size := R1.out.lt
                have hmin : min (n' + 1) room ≤ 1000 := by omega
                obtain ⟨c70, _⟩ := cells6 B78.out
                have f70 := B78.out.frozen 0
                clear HLi hO8 he8 HL8 B78 B68 HP8 HX8 hE8 HO62r B7r B6r HPr HXr hll hzr
                go_wp2_with fail
                go_meet
                exact ⟨A8, _, c8, R1, R2, R3, R4, R5, hmin, R7⟩
      case rest =>
        obtain ⟨O4, n4, c4, HB7, HL4, HP4, HB6, HX4, hn4, hg4⟩ := hcut
        have hlen4 : Hid ((addLs ⟨ls, (room : Int), (a : Int), sl, pl, ol⟩ line).length = n4) := Lib.hid HL4.out.o.lns.len
        obtain ⟨c0, c1, c2, c3, c4', c5⟩ := cells6 HB7.out
        obtain ⟨f0, f1, f2, f3, f4, f5⟩ := frozen6 HB7.out
        have hE := (Eqv.setCell (N := [g7]) wc ⟨g7, 2, none⟩ (.int .i64 (n4 : Int)) (by simp)).trans (Eqv.setCell (N := [g7]) (wc.setCell ⟨g7, 2, none⟩ (.int .i64 (n4 : Int))) ⟨g7, 3, none⟩ (.slice none 0 0) (by simp))
        have R1 := Lib.hid ((HB7.out.set_ 2 (.int .i64 (n4 : Int))).set_ 3 (.slice none 0 0))
        have R2 := Lib.hid (HL4.out.eqv hE)
        have R3 := Lib.hid (HP4.out.eqv hE (fun k hk hm => HPb.out k hk (by simp at hm; simp [hm])))
        have R4 := Lib.hid (Blk.eqv HB6.out hE (fun hm => by simp at hm; omega))
        have R5 := Lib.hid ((HX4.out.setCell (p := ⟨g7, 2, none⟩) (show w.heap.size ≤ g7 by omega) (.int .i64 (n4 : Int))).setCell (p := ⟨g7, 3, none⟩) (show w.heap.size ≤ g7 by omega) (.slice none 0 0))
        clear hE HL4 HP4 HX4
        go_upto_region 16 with fail
        clear HB7 HB6 c0 c1 c2 c3 c4' c5 f0 f1 f2 f3 f4 f5
        generalize (wc.setCell ⟨g7, 2, none⟩ (.int .i64 (n4 : Int))).setCell ⟨g7, 3, none⟩ (.slice none 0 0) = W9 at *
        have R1' : Hid (Blk W9 g7 55 #[.slice O4 n4 c4, .int .i64 (room : Int), .int .i64 (n4 : Int), .slice none 0 0, .slice P' pn' pc', .bool ol]) := Lib.hid R1.out
        obtain ⟨c0, c1, c2, c3, c4', c5⟩ := cells6 R1'.out
        obtain ⟨d0, d1, d2, d3, d4, d5⟩ := cells6 R4.out
        obtain ⟨f0, f1, f2, f3, f4, f5⟩ := frozen6 R4.out
        have hlt1 : w.heap.size + 1 < w.heap.size + 2 := by omega
        have HHis : Hid (HisO W9 (w.heap.size + 2) (.agg (hisC O4 n4 c4 (room : Int) (n4 : Int) none 0 0 P' pn' pc' ol)) (addH ⟨ls, (room : Int), (a : Int), sl, pl, ol⟩ line)) := Lib.hid (by
          refine ⟨O4, n4, c4, none, 0, 0, P', pn', pc', ?_, R2.out.o, RegOw.nil _ _, R3.out⟩
          unfold addH
          simp only
          rw [hlen4.out])
        have HO6 := Lib.hid (st6_his HHis.out hlt1 (.slice O4 n4 c4) (.int .i64 (room : Int)) (.int .i64 (n4 : Int)) (.slice none 0 0) (.slice P' pn' pc') (.bool ol))
        have HX6 := Lib.hid (st6_ext R5.out (show w.heap.size ≤ w.heap.size + 1 by omega) (.slice O4 n4 c4) (.int .i64 (room : Int)) (.int .i64 (n4 : Int)) (.slice none 0 0) (.slice P' pn' pc') (.bool ol))
        have hf6 := Lib.hid (st6_blk R4.out (.slice O4 n4 c4) (.int .i64 (room : Int)) (.int .i64 (n4 : Int)) (.slice none 0 0) (.slice P' pn' pc') (.bool ol))
        unfold st6 at HO6 HX6 hf6
        clear R1 R2 R3 R4 R5 R1' HHis
        go_wp2_with fail
        refine bodyPost_ret (v := .tuple #[.agg (hisC O4 n4 c4 (room : Int) (n4 : Int) none 0 0 P' pn' pc' ol), .int .i64 0]) ?_ rfl ⟨HX6.out, .inl ⟨HOK.out, _, rfl, HO6.out.lower (by omega)⟩⟩
        exact results_row_tmp1 rfl _ _ (w.heap.size + 1) 55 _ _ _ _ rfl rfl hf6.out Try.underlying55 rfl (hist_size rfl)
end Go.Proofs.Ytbhbakejpgndmaa
