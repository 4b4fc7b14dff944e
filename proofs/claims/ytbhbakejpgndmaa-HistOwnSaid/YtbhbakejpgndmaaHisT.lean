/-
  The walk of hist.to.
-/
import Derived.Test.YtbhbakejpgndmaaHisN
import Derived.Test.YtbhbakejpgndmaaRegQ
import Derived.Deep.CutRange
import Derived.Deep.WholeRow
namespace Go.Proofs.Ytbhbakejpgndmaa
open Go.RowKit
set_option linter.unusedVariables false
set_option linter.unusedSimpArgs false

/-- What is there when one goes to a line. -/
def toS (h : Hi) (now : List Int) : List Int := if h.at_ = (h.lines.length : Int) then now else h.scratch
def toH (h : Hi) (now : List Int) (k : Nat) : Hi := ⟨h.lines, h.most, k, toS h now, h.pattern, h.older⟩
def toL (h : Hi) (now : List Int) (k : Nat) : List Int := if k = h.lines.length then toS h now else gL h.lines k

theorem cells6e {w w' : World} {g : Nat} {a b c d e f : Value} (he : Ext w w') (h : w.cell? ⟨g, 0, none⟩ = some a ∧ w.cell? ⟨g, 1, none⟩ = some b ∧ w.cell? ⟨g, 2, none⟩ = some c ∧ w.cell? ⟨g, 3, none⟩ = some d ∧ w.cell? ⟨g, 4, none⟩ = some e ∧ w.cell? ⟨g, 5, none⟩ = some f) :
    w'.cell? ⟨g, 0, none⟩ = some a ∧ w'.cell? ⟨g, 1, none⟩ = some b ∧ w'.cell? ⟨g, 2, none⟩ = some c ∧ w'.cell? ⟨g, 3, none⟩ = some d ∧ w'.cell? ⟨g, 4, none⟩ = some e ∧ w'.cell? ⟨g, 5, none⟩ = some f :=
  ⟨he.cell h.1, he.cell h.2.1, he.cell h.2.2.1, he.cell h.2.2.2.1, he.cell h.2.2.2.2.1, he.cell h.2.2.2.2.2⟩
theorem frozen6 {w : World} {g t : Nat} {cs : Array Value} (h : Blk w g t cs) : w.frozen? ⟨g, 0, none⟩ = false ∧ w.frozen? ⟨g, 1, none⟩ = false ∧ w.frozen? ⟨g, 2, none⟩ = false ∧ w.frozen? ⟨g, 3, none⟩ = false ∧ w.frozen? ⟨g, 4, none⟩ = false ∧ w.frozen? ⟨g, 5, none⟩ = false :=
  ⟨h.frozen 0, h.frozen 1, h.frozen 2, h.frozen 3, h.frozen 4, h.frozen 5⟩
def hisZ : Array Value := #[.slice none 0 0, .int .i64 0, .int .i64 0, .slice none 0 0, .slice none 0 0, .bool false]

/-- Six cells are stored. -/
def st6 (w : World) (g : Nat) (a b c d e f : Value) : World := (((((w.setCell ⟨g, 0, none⟩ a).setCell ⟨g, 1, none⟩ b).setCell ⟨g, 2, none⟩ c).setCell ⟨g, 3, none⟩ d).setCell ⟨g, 4, none⟩ e).setCell ⟨g, 5, none⟩ f
theorem st6_blk {w : World} {g t : Nat} {a' b' c' d' e' f' : Value} (h : Blk w g t #[a', b', c', d', e', f']) (a b c d e f : Value) : Blk (st6 w g a b c d e f) g t #[a, b, c, d, e, f] :=
  (((((h.set_ 0 a).set_ 1 b).set_ 2 c).set_ 3 d).set_ 4 e).set_ 5 f
theorem st6_ext {w0 w : World} {g : Nat} (h : Ext w0 w) (hg : w0.heap.size ≤ g) (a b c d e f : Value) : Ext w0 (st6 w g a b c d e f) :=
  (((((h.setCell (p := ⟨g, 0, none⟩) hg a).setCell (p := ⟨g, 1, none⟩) hg b).setCell (p := ⟨g, 2, none⟩) hg c).setCell (p := ⟨g, 3, none⟩) hg d).setCell (p := ⟨g, 4, none⟩) hg e).setCell (p := ⟨g, 5, none⟩) hg f
theorem st6_own {w : World} {g base e' z n cc : Nat} {A : Option Addr} {xs : List Value} (h : Own w base e' z A n cc xs) (hg : g < base) (a b c d e f : Value) : Own (st6 w g a b c d e f) base e' z A n cc xs :=
  (((((h.setCell (p := ⟨g, 0, none⟩) hg a).setCell (p := ⟨g, 1, none⟩) hg b).setCell (p := ⟨g, 2, none⟩) hg c).setCell (p := ⟨g, 3, none⟩) hg d).setCell (p := ⟨g, 4, none⟩) hg e).setCell (p := ⟨g, 5, none⟩) hg f
theorem st6_his {w : World} {g base : Nat} {v : Value} {h : Hi} (hh : HisO w base v h) (hg : g < base) (a b c d e f : Value) : HisO (st6 w g a b c d e f) base v h :=
  (((((hh.setCell (p := ⟨g, 0, none⟩) hg a).setCell (p := ⟨g, 1, none⟩) hg b).setCell (p := ⟨g, 2, none⟩) hg c).setCell (p := ⟨g, 3, none⟩) hg d).setCell (p := ⟨g, 4, none⟩) hg e).setCell (p := ⟨g, 5, none⟩) hg f
theorem st6_hisN {w : World} {g base : Nat} {L v : Value} {h : Hi} (hh : HisN w base L v h) (hg : g < base) (a b c d e f : Value) : HisN (st6 w g a b c d e f) base L v h :=
  (((((hh.setCell (p := ⟨g, 0, none⟩) hg a).setCell (p := ⟨g, 1, none⟩) hg b).setCell (p := ⟨g, 2, none⟩) hg c).setCell (p := ⟨g, 3, none⟩) hg d).setCell (p := ⟨g, 4, none⟩) hg e).setCell (p := ⟨g, 5, none⟩) hg f
theorem results_row_tmp2 {P : Program} {fn : Func} {p q r : Tmp} {ty : TypeId} (h : fn.results = #[.cell p ty, .tmp q, .tmp r]) (tmps : Array Value) (w : World) (g : Nat) (t : TypeId) (cs : Array Value) (fr : Nat × Nat) (d : TypeDesc) (v u : Value)
    (hp : tmps.getD p undef = .pointer (some ⟨g, 0, none⟩)) (hq : tmps.getD q undef = v) (hr : tmps.getD r undef = u) (hg : w.heap[g]? = some (.cells cs t fr))
    (hu : P.underlying ty = some d) (hd : (match d with | .struct _ | .array _ _ => true | _ => false) = true) (hi : (P.info? ty).map (·.size) = some cs.size) :
    (results fn tmps).run P w = .ok (.tuple #[.agg cs, v, u]) w := by
  have hp' : tmps[p]?.getD undef = .pointer (some ⟨g, 0, none⟩) := by simpa using hp
  have hq' : tmps[q]?.getD undef = v := by simpa using hq
  have hr' : tmps[r]?.getD undef = u := by simpa using hr
  simp [results, h, hp', hq', hr', asAddr, run_loadVar_row w g t ty cs fr d hg hu hd hi]

set_option maxRecDepth 20000 in
set_option maxHeartbeats 8000000 in
theorem hto_far {w : World} {v : Value} {h : Hi} {N : Option Addr} {q y : Nat} {now : List Int} {k : Nat} (hv : HisV w v h) (hsm : h.lines.length ≤ 1000) (hnow : Ints w N q y now) (hN : N = none → y = 0) (hq : q * 8 ≤ 140737488355328) (hk : k ≤ h.lines.length) :
    Calls Try.prog 44 #[v, .slice N q y, .int .i64 k] w fun e w' => ∃ u L m z, e = .returned (.tuple #[u, .slice L m z, .int .i64 0]) ∧ HisO w' w.heap.size u (toH h now k) ∧ OwnI w' w.heap.size L m z (toL h now k) ∧ (L = none → z = 0) ∧ Ext w w' ∧ HisN w' w.heap.size (.slice L m z) u (toH h now k) := by
  have HV := Lib.hid hv
  obtain ⟨ls, mo, at_, sl, pl, ol⟩ := h
  obtain ⟨A, n, c, S, sn, sc, P, pn, pc, rfl, hL, hA, hS, hP⟩ := hv
  have hZ : hisZ = #[.slice none 0 0, .int .i64 0, .int .i64 0, .slice none 0 0, .slice none 0 0, .bool false] := rfl
  simp only at hL hS hP hsm hk
  have hn := hL.len
  have HL := Lib.hid hL
  have HNow := Lib.hid hnow
  have hn1 : n ≤ 1000 := by omega
  rw [hn] at hk
  have HN := Lib.hid hn
  have hb0 := Lib.hid ((Blk.new w 55 (hisC A n c mo at_ S sn sc P pn pc ol)).ext (Ext.alloc _ (.cells hisZ 55)))
  have hb1 : Hid (Blk ((w.alloc (.cells (hisC A n c mo at_ S sn sc P pn pc ol) 55)).alloc (.cells hisZ 55)) (w.heap.size + 1) 55 hisZ) := Lib.hid (by
    have := Blk.new (w.alloc (.cells (hisC A n c mo at_ S sn sc P pn pc ol) 55)) 55 hisZ
    rwa [World.size_alloc] at this)
  have hx0 : Hid (Ext w ((w.alloc (.cells (hisC A n c mo at_ S sn sc P pn pc ol) 55)).alloc (.cells hisZ 55))) := Lib.hid ((Ext.alloc _ _).to_alloc _)
  have HC := Lib.hid (hcopied_ok (HV.out.ext hx0.out) (by simp only; omega))
  have hsz0 : Hid (((w.alloc (.cells (hisC A n c mo at_ S sn sc P pn pc ol) 55)).alloc (.cells hisZ 55)).heap.size = w.heap.size + 2) := Lib.hid (by simp)
  clear hL hS hP hn hnow hsm
  unfold hisC hisZ at *
  clear hZ
  go_enter Try.func44, Try.ntmps44
  go_wp2_with fail
  refine HC.out.mono ?_
  rintro e w1 ⟨u, rfl, hO, he1⟩
  rw [hsz0.out] at hO
  obtain ⟨O, n', d, S', sn', sc', P', pn', pc', rfl, hOL, hOS, hOP⟩ := hO
  unfold hisC
  simp only at hOL hOS hOP
  obtain rfl : n' = n := by rw [← hOL.lns.len]; exact HN.out
  have hsz1 : w.heap.size + 2 ≤ w1.heap.size := by have := he1.hsize; rw [hsz0.out] at this; exact this
  have HX1 := Lib.hid (hx0.out.trans he1)
  have HB3 := Lib.hid (Blk.ext hb0.out he1)
  have HB6 := Lib.hid (Blk.ext hb1.out he1)
  have HOL := Lib.hid hOL
  have HOS := Lib.hid hOS
  have HOP := Lib.hid hOP
  clear HC hOL hOS hOP he1 hb0 hb1 hx0 hsz0
  have HB9 := Lib.hid (Blk.new w1 55 #[.slice O n' d, .int .i64 mo, .int .i64 at_, .slice S' sn' sc', .slice P' pn' pc', .bool ol])
  have HX2 := Lib.hid (Ext.alloc w1 (.cells #[.slice O n' d, .int .i64 mo, .int .i64 at_, .slice S' sn' sc', .slice P' pn' pc', .bool ol] 55))
  go_upto_region 2 with fail
  change Code.wp _ _ _ _ (w1.alloc (.cells #[.slice O n' d, .int .i64 mo, .int .i64 at_, .slice S' sn' sc', .slice P' pn' pc', .bool ol] 55))
  have hg9 : w1.heap.size < (w1.alloc (.cells #[.slice O n' d, .int .i64 mo, .int .i64 at_, .slice S' sn' sc', .slice P' pn' pc', .bool ol] 55)).heap.size := by simp
  generalize w1.alloc (.cells #[.slice O n' d, .int .i64 mo, .int .i64 at_, .slice S' sn' sc', .slice P' pn' pc', .bool ol] 55) = W at *
  generalize hg : w1.heap.size = g9 at *
  obtain ⟨k0, _, k2, _⟩ := cells6 (Blk.ext HB3.out HX2.out)
  have f93 := HB9.out.frozen 3
  obtain ⟨_, _, _, c93, _⟩ := cells6 HB9.out
  go_upto_if 17 with fail
  go_cut [] (fun wx => ∃ (S2 : Option Addr) (s2 z2 : Nat), Hid (Blk wx g9 55 #[.slice O n' d, .int .i64 mo, .int .i64 at_, .slice S2 s2 z2, .slice P' pn' pc', .bool ol]) ∧ Hid (RegOw wx (w.heap.size + 2) (.slice S2 s2 z2) (toS ⟨ls, mo, at_, sl, pl, ol⟩ now)) ∧ Hid ((Value.slice S2 s2 z2).ownBlock ≠ some g9) ∧ Hid (Ext w1 wx))
  case first =>
    by_cases hat : at_ = n'
    · have HNow2 := Lib.hid (HNow.out.ext (HX1.out.trans HX2.out))
      have HC := Lib.hid (clone_ok HNow2.out hN hq)
      have hts : Hid (toS ⟨ls, mo, at_, sl, pl, ol⟩ now = now) := Lib.hid (by unfold toS; simp only; rw [HN.out, if_pos hat])
      subst hat
      go_wp2_with fail
      refine HC.out.mono ?_
      rintro e w3 ⟨B, z, rfl, hOB, hB0, he3⟩
      have hb9 := Blk.ext HB9.out he3
      have c3 := hb9.cell 3
      simp only [List.getElem?_toArray, List.getElem?_cons_zero, List.getElem?_cons_succ] at c3
      have f3 := hb9.frozen 3
      have hne : (Value.slice B q z).ownBlock ≠ some g9 := fun e => by have := (Own.blk hOB _ e).1; omega
      have R1 := Lib.hid (hb9.set_ 3 (.slice B q z))
      have R2 : Hid (RegOw (w3.setCell ⟨g9, 3, none⟩ (.slice B q z)) (w.heap.size + 2) (.slice B q z) (toS ⟨ls, mo, (n' : Int), sl, pl, ol⟩ now)) := Lib.hid (by
        rw [hts.out]
        exact RegOw.setCell_ne (p := ⟨g9, 3, none⟩) (show RegOw w3 (w.heap.size + 2) (.slice B q z) now from ⟨B, q, z, rfl, Own.lower hOB (by omega), hB0, hq⟩) hne _)
      have R3 := Lib.hid hne
      have R4 := Lib.hid ((HX2.out.trans he3).setCell (p := ⟨g9, 3, none⟩) (show w1.heap.size ≤ g9 by omega) (.slice B q z))
      clear HC hOB hB0 he3 hb9 hne k0 k2 f93 c93 hts
      go_wp2_with fail
      go_meet
      exact ⟨B, q, z, R1, R2, R3, R4⟩
    · have hat2 : (at_ == (n' : Int)) = false := by simpa using hat
      have hts : Hid (toS ⟨ls, mo, at_, sl, pl, ol⟩ now = sl) := Lib.hid (by unfold toS; simp only; rw [HN.out, if_neg hat])
      have R2 : Hid (RegOw W (w.heap.size + 2) (.slice S' sn' sc') (toS ⟨ls, mo, at_, sl, pl, ol⟩ now)) := Lib.hid (by rw [hts.out]; exact HOS.out.ext HX2.out)
      have R3 : Hid ((Value.slice S' sn' sc').ownBlock ≠ some g9) := Lib.hid (fun e => by have := (HOS.out.blk g9 e).2; omega)
      go_wp2_with fail
      go_meet
      exact ⟨S', sn', sc', HB9, R2, R3, HX2⟩
  case rest =>
    clear HB9 HX2 c93 f93 k0 k2
    obtain ⟨S2, s2, z2, HB9, HOS2, Hne, HX2⟩ := hcut
    have f92 := HB9.out.frozen 2
    obtain ⟨_, _, c92, _⟩ := cells6 HB9.out
    have R1 := Lib.hid (HB9.out.set_ 2 (.int .i64 (k : Int)))
    have R2 := Lib.hid (RegOw.setCell_ne (p := ⟨g9, 2, none⟩) HOS2.out Hne.out (.int .i64 (k : Int)))
    have R4 := Lib.hid (HX2.out.setCell (p := ⟨g9, 2, none⟩) (show w1.heap.size ≤ g9 by omega) (.int .i64 (k : Int)))
    have hsz9 : g9 < (wc.setCell ⟨g9, 2, none⟩ (.int .i64 (k : Int))).heap.size := R1.out.lt
    go_upto_region 5 with fail
    clear HB9 HOS2 HX2 c92 f92
    generalize wc.setCell ⟨g9, 2, none⟩ (.int .i64 (k : Int)) = W2 at *
    have HB9 : Hid (Blk W2 g9 55 #[.slice O n' d, .int .i64 mo, .int .i64 (k : Int), .slice S2 s2 z2, .slice P' pn' pc', .bool ol]) := Lib.hid R1.out
    clear R1
    obtain ⟨k0, _⟩ := cells6 (Blk.ext HB3.out R4.out)
    obtain ⟨B5, n5, c5, hh5, hO5, hB5, hn5⟩ := R2.out
    injection hh5 with h1 h2 h3
    subst h1; subst h2; subst h3
    by_cases hkn : k = n'
    · subst hkn
      go_upto_if 27 with fail
      have hx6 := cells6 HB9.out
      have hxd := cells6e (Ext.drew W2) hx6
      have HC := Lib.hid (clone_ok (hO5.ints.ext (Ext.drew W2)) hB5 hn5)
      go_upto_region 6 with fail
      obtain ⟨x0, x1, x2, x3, x4, x5⟩ := hxd
      clear hx6
      go_region_law (first
        | (refine step_call rfl 24 #[.slice S2 s2 z2] (by kernel_rfl) (fun v w' => ∃ B6 z6, v = .slice B6 s2 z6 ∧ OwnI w' W2.drew.heap.size B6 s2 z6 (toS ⟨ls, mo, at_, sl, pl, ol⟩ now) ∧ (B6 = none → z6 = 0) ∧ Ext W2.drew w') (HC.out.mono fun e w' ⟨B6, z6, h1, h2⟩ => ⟨_, h1, B6, z6, rfl, h2⟩) ?_
           rintro v w3 ⟨B6, z6, rfl, hO6, hB6, he6⟩
           have y0 := he6.cell x0
           have y1 := he6.cell x1
           have y2 := he6.cell x2
           have y3 := he6.cell x3
           have y4 := he6.cell x4
           have y5 := he6.cell x5
           have hb6 := Blk.ext (Blk.ext HB6.out (R4.out.trans (Ext.drew W2))) he6
           obtain ⟨d0, d1, d2, d3, d4, d5⟩ := cells6 hb6
           obtain ⟨f0, f1, f2, f3, f4, f5⟩ := frozen6 hb6))
      all_goals
        have he7 := (Ext.drew W2).trans he6
        have hfin := Lib.hid (st6_blk hb6 (.slice O k d) (.int .i64 mo) (.int .i64 (k : Int)) (.slice S2 s2 z2) (.slice P' pn' pc') (.bool ol))
        have hlt1 : w.heap.size + 1 < w.heap.size + 2 := by omega
        have HOut : Hid (HisO (st6 w3 (w.heap.size + 1) (.slice O k d) (.int .i64 mo) (.int .i64 (k : Int)) (.slice S2 s2 z2) (.slice P' pn' pc') (.bool ol)) w.heap.size (.agg (hisC O k d mo (k : Int) S2 s2 z2 P' pn' pc' ol)) (toH ⟨ls, mo, at_, sl, pl, ol⟩ now k)) := Lib.hid
          ((st6_his (show HisO w3 (w.heap.size + 2) (.agg (hisC O k d mo (k : Int) S2 s2 z2 P' pn' pc' ol)) (toH ⟨ls, mo, at_, sl, pl, ol⟩ now k) from
            ⟨O, k, d, S2, s2, z2, P', pn', pc', rfl, HOL.out.ext (R4.out.trans he7), R2.out.ext he7, HOP.out.ext (R4.out.trans he7)⟩) hlt1 _ _ _ _ _ _).lower (by omega))
        have HFar : Hid (HisN (st6 w3 (w.heap.size + 1) (.slice O k d) (.int .i64 mo) (.int .i64 (k : Int)) (.slice S2 s2 z2) (.slice P' pn' pc') (.bool ol)) w.heap.size (.slice B6 s2 z6) (.agg (hisC O k d mo (k : Int) S2 s2 z2 P' pn' pc' ol)) (toH ⟨ls, mo, at_, sl, pl, ol⟩ now k)) := Lib.hid
          ((st6_hisN ((HisN.of (L := .slice B6 s2 z6) (show HisO W2.drew (w.heap.size + 2) (.agg (hisC O k d mo (k : Int) S2 s2 z2 P' pn' pc' ol)) (toH ⟨ls, mo, at_, sl, pl, ol⟩ now k) from
            ⟨O, k, d, S2, s2, z2, P', pn', pc', rfl, HOL.out.ext (R4.out.trans (Ext.drew W2)), R2.out.ext (Ext.drew W2), HOP.out.ext (R4.out.trans (Ext.drew W2))⟩) (fun g hg => (Own.blk hO6 g hg).1)).ext he6) hlt1 _ _ _ _ _ _).lower (by omega))
        have HLin : Hid (OwnI (st6 w3 (w.heap.size + 1) (.slice O k d) (.int .i64 mo) (.int .i64 (k : Int)) (.slice S2 s2 z2) (.slice P' pn' pc') (.bool ol)) w.heap.size B6 s2 z6 (toL ⟨ls, mo, at_, sl, pl, ol⟩ now k)) := Lib.hid (by
          rw [show toL ⟨ls, mo, at_, sl, pl, ol⟩ now k = toS ⟨ls, mo, at_, sl, pl, ol⟩ now from by unfold toL; simp only; rw [if_pos HN.out.symm]]
          exact Own.lower (st6_own (Own.lower hO6 (show w.heap.size + 2 ≤ W2.drew.heap.size from Nat.le_trans (show w.heap.size + 2 ≤ g9 by omega) (Nat.le_of_lt hsz9))) hlt1 _ _ _ _ _ _) (by omega))
        have HX9 : Hid (Ext w (st6 w3 (w.heap.size + 1) (.slice O k d) (.int .i64 mo) (.int .i64 (k : Int)) (.slice S2 s2 z2) (.slice P' pn' pc') (.bool ol))) := Lib.hid (st6_ext (HX1.out.trans (R4.out.trans he7)) (by omega) _ _ _ _ _ _)
        have HB := Lib.hid hB6
        clear he7 hb6 d0 d1 d2 d3 d4 d5 f0 f1 f2 f3 f4 f5 hO6 hB6 he6
        unfold st6 at hfin HOut HLin HX9
        go_wp2_with fail
        refine bodyPost_ret (v := .tuple #[.agg (hisC O k d mo (k : Int) S2 s2 z2 P' pn' pc' ol), .slice B6 s2 z6, .int .i64 0]) ?_ rfl ⟨_, B6, s2, z6, rfl, HOut.out, HLin.out, HB.out, HX9.out, HFar.out⟩
        exact results_row_tmp2 rfl _ _ (w.heap.size + 1) 55 _ _ _ _ _ rfl rfl rfl hfin.out Try.underlying55 rfl (hist_size rfl)
    · have hklt : k < n' := by omega
      have hkb : ((k : Int) == (n' : Int)) = false := by simp; omega
      go_upto_if 27 with fail
      obtain ⟨ad, v, rfl, hc, B7, m7, c7, rfl, hI7, hB7, hm7⟩ := (HL.out.ext (HX1.out.trans R4.out)).at_ hklt
      obtain ⟨x0, x1, x2, x3, x4, x5⟩ := cells6e (Ext.drew W2) (cells6 HB9.out)
      have y0' : W2.drew.cell? ⟨w.heap.size, 0, none⟩ = some (.slice (some ad) n' c) := k0
      have hcd : W2.drew.cell? (ad.add k) = some (.slice B7 m7 c7) := hc
      have HC := Lib.hid (clone_ok (hI7.ext (Ext.drew W2)) hB7 hm7)
      clear hI7
      go_upto_region 7 with fail
      go_region_law (first
        | (refine step_call rfl 24 #[.slice B7 m7 c7] (by kernel_rfl) (fun v w' => ∃ B6 z6, v = .slice B6 m7 z6 ∧ OwnI w' W2.drew.heap.size B6 m7 z6 (gL ls k) ∧ (B6 = none → z6 = 0) ∧ Ext W2.drew w') (HC.out.mono fun e w' ⟨B6, z6, h1, h2⟩ => ⟨_, h1, B6, z6, rfl, h2⟩) ?_
           rintro v w3 ⟨B6, z6, rfl, hO6, hB6, he6⟩
           have y0 := he6.cell x0
           have y1 := he6.cell x1
           have y2 := he6.cell x2
           have y3 := he6.cell x3
           have y4 := he6.cell x4
           have y5 := he6.cell x5
           have hb6 := Blk.ext (Blk.ext HB6.out (R4.out.trans (Ext.drew W2))) he6
           obtain ⟨d0, d1, d2, d3, d4, d5⟩ := cells6 hb6
           obtain ⟨f0, f1, f2, f3, f4, f5⟩ := frozen6 hb6))
      all_goals
        have he7 := (Ext.drew W2).trans he6
        have hfin := Lib.hid (st6_blk hb6 (.slice O n' d) (.int .i64 mo) (.int .i64 (k : Int)) (.slice S2 s2 z2) (.slice P' pn' pc') (.bool ol))
        have hlt1 : w.heap.size + 1 < w.heap.size + 2 := by omega
        have HOut : Hid (HisO (st6 w3 (w.heap.size + 1) (.slice O n' d) (.int .i64 mo) (.int .i64 (k : Int)) (.slice S2 s2 z2) (.slice P' pn' pc') (.bool ol)) w.heap.size (.agg (hisC O n' d mo (k : Int) S2 s2 z2 P' pn' pc' ol)) (toH ⟨ls, mo, at_, sl, pl, ol⟩ now k)) := Lib.hid
          ((st6_his (show HisO w3 (w.heap.size + 2) (.agg (hisC O n' d mo (k : Int) S2 s2 z2 P' pn' pc' ol)) (toH ⟨ls, mo, at_, sl, pl, ol⟩ now k) from
            ⟨O, n', d, S2, s2, z2, P', pn', pc', rfl, HOL.out.ext (R4.out.trans he7), R2.out.ext he7, HOP.out.ext (R4.out.trans he7)⟩) hlt1 _ _ _ _ _ _).lower (by omega))
        have HFar : Hid (HisN (st6 w3 (w.heap.size + 1) (.slice O n' d) (.int .i64 mo) (.int .i64 (k : Int)) (.slice S2 s2 z2) (.slice P' pn' pc') (.bool ol)) w.heap.size (.slice B6 m7 z6) (.agg (hisC O n' d mo (k : Int) S2 s2 z2 P' pn' pc' ol)) (toH ⟨ls, mo, at_, sl, pl, ol⟩ now k)) := Lib.hid
          ((st6_hisN ((HisN.of (L := .slice B6 m7 z6) (show HisO W2.drew (w.heap.size + 2) (.agg (hisC O n' d mo (k : Int) S2 s2 z2 P' pn' pc' ol)) (toH ⟨ls, mo, at_, sl, pl, ol⟩ now k) from
            ⟨O, n', d, S2, s2, z2, P', pn', pc', rfl, HOL.out.ext (R4.out.trans (Ext.drew W2)), R2.out.ext (Ext.drew W2), HOP.out.ext (R4.out.trans (Ext.drew W2))⟩) (fun g hg => (Own.blk hO6 g hg).1)).ext he6) hlt1 _ _ _ _ _ _).lower (by omega))
        have HLin : Hid (OwnI (st6 w3 (w.heap.size + 1) (.slice O n' d) (.int .i64 mo) (.int .i64 (k : Int)) (.slice S2 s2 z2) (.slice P' pn' pc') (.bool ol)) w.heap.size B6 m7 z6 (toL ⟨ls, mo, at_, sl, pl, ol⟩ now k)) := Lib.hid (by
          rw [show toL ⟨ls, mo, at_, sl, pl, ol⟩ now k = gL ls k from by unfold toL; simp only; rw [if_neg (by rw [HN.out]; exact hkn)]]
          exact Own.lower (st6_own (Own.lower hO6 (show w.heap.size + 2 ≤ W2.drew.heap.size from Nat.le_trans (show w.heap.size + 2 ≤ g9 by omega) (Nat.le_of_lt hsz9))) hlt1 _ _ _ _ _ _) (by omega))
        have HX9 : Hid (Ext w (st6 w3 (w.heap.size + 1) (.slice O n' d) (.int .i64 mo) (.int .i64 (k : Int)) (.slice S2 s2 z2) (.slice P' pn' pc') (.bool ol))) := Lib.hid (st6_ext (HX1.out.trans (R4.out.trans he7)) (by omega) _ _ _ _ _ _)
        have HB := Lib.hid hB6
        clear he7 hb6 d0 d1 d2 d3 d4 d5 f0 f1 f2 f3 f4 f5 hO6 hB6 he6
        unfold st6 at hfin HOut HLin HX9
        go_wp2_with fail
        refine bodyPost_ret (v := .tuple #[.agg (hisC O n' d mo (k : Int) S2 s2 z2 P' pn' pc' ol), .slice B6 m7 z6, .int .i64 0]) ?_ rfl ⟨_, B6, m7, z6, rfl, HOut.out, HLin.out, HB.out, HX9.out, HFar.out⟩
        exact results_row_tmp2 rfl _ _ (w.heap.size + 1) 55 _ _ _ _ _ rfl rfl rfl hfin.out Try.underlying55 rfl (hist_size rfl)

theorem hto_ok {w : World} {v : Value} {h : Hi} {N : Option Addr} {q y : Nat} {now : List Int} {k : Nat} (hv : HisV w v h) (hsm : h.lines.length ≤ 1000) (hnow : Ints w N q y now) (hN : N = none → y = 0) (hq : q * 8 ≤ 140737488355328) (hk : k ≤ h.lines.length) :
    Calls Try.prog 44 #[v, .slice N q y, .int .i64 k] w fun e w' => ∃ u L m z, e = .returned (.tuple #[u, .slice L m z, .int .i64 0]) ∧ HisO w' w.heap.size u (toH h now k) ∧ OwnI w' w.heap.size L m z (toL h now k) ∧ (L = none → z = 0) ∧ Ext w w' :=
  (hto_far hv hsm hnow hN hq hk).mono fun e w' ⟨u, L, m, z, h1, h2, h3, h4, h5, _⟩ => ⟨u, L, m, z, h1, h2, h3, h4, h5⟩
end Go.Proofs.Ytbhbakejpgndmaa
