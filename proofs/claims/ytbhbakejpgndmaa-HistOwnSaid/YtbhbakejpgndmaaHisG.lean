/-
  The walk of hist.Find.
-/
import Derived.Test.YtbhbakejpgndmaaHisB
import Derived.Test.YtbhbakejpgndmaaHisF
namespace Go.Proofs.Ytbhbakejpgndmaa
open Go.RowKit
set_option linter.unusedVariables false
set_option linter.unusedSimpArgs false

/-- The pattern that is meant. -/
def patE (h : Hi) (p : List Int) : List Int := if p.length = 0 then h.pattern else p
/-- The next line down that has a pattern, below a place. -/
def fdO (ls : List (List Int)) (p : List Int) : Nat → Option Nat
  | 0 => none
  | k + 1 => if fitsB p (gL ls k) then some k else fdO ls p k
/-- The next line up; so many are left. -/
def fdN (ls : List (List Int)) (p : List Int) (n : Nat) : Nat → Option Nat
  | 0 => none
  | r + 1 => if fitsB p (gL ls (n - (r + 1))) then some (n - (r + 1)) else fdN ls p n r
def findK (h : Hi) (p : List Int) (older : Bool) : Option Nat := if older = true then fdO h.lines p h.at_.toNat else fdN h.lines p h.lines.length (h.lines.length - (h.at_.toNat + 1))
def FOk (h : Hi) (now p : List Int) (older : Bool) (k : Nat) : Prop := Good h now 0 ∧ p.length ≤ 200 ∧ patE h p ≠ [] ∧ findK h (patE h p) older = some k
def findH (h : Hi) (now p : List Int) (older : Bool) (k : Nat) : Hi := ⟨h.lines, h.most, k, toS h now, patE h p, older⟩
/-- What Find answers. -/
def Finds (h : Hi) (now p : List Int) (older : Bool) (w : World) (e : Ending) (w' : World) : Prop :=
  Ext w w' ∧ ((∃ k, FOk h now p older k ∧ k < h.lines.length ∧ ∃ u L m z, e = .returned (.tuple #[u, .slice L m z, .int .i64 0]) ∧ HisO w' w.heap.size u (findH h now p older k) ∧ OwnI w' w.heap.size L m z (toL h now k) ∧ (L = none → z = 0)) ∨
    ((∀ k, ¬ FOk h now p older k) ∧ ∃ x : Int, e = .returned (.tuple #[.agg hisZ, .slice none 0 0, .int .i64 x]) ∧ x ≠ 0))

/-- What Find answers, and that the history stays whatever becomes of the line. -/
def FindsN (h : Hi) (now p : List Int) (older : Bool) (w : World) (e : Ending) (w' : World) : Prop :=
  Ext w w' ∧ ((∃ k, FOk h now p older k ∧ k < h.lines.length ∧ ∃ u L m z, e = .returned (.tuple #[u, .slice L m z, .int .i64 0]) ∧ HisO w' w.heap.size u (findH h now p older k) ∧ OwnI w' w.heap.size L m z (toL h now k) ∧ (L = none → z = 0) ∧ HisN w' w.heap.size (.slice L m z) u (findH h now p older k)) ∨
    ((∀ k, ¬ FOk h now p older k) ∧ ∃ x : Int, e = .returned (.tuple #[.agg hisZ, .slice none 0 0, .int .i64 x]) ∧ x ≠ 0))
theorem FindsN.finds {h : Hi} {now p : List Int} {older : Bool} {w : World} {e : Ending} {w' : World} (hh : FindsN h now p older w e w') : Finds h now p older w e w' :=
  ⟨hh.1, hh.2.imp (fun ⟨k, h1, h2, u, L, m, z, h3, h4, h5, h6, _⟩ => ⟨k, h1, h2, u, L, m, z, h3, h4, h5, h6⟩) id⟩

set_option maxRecDepth 20000 in
set_option maxHeartbeats 8000000 in
theorem find_far {w : World} {v : Value} {h : Hi} {N T0 : Option Addr} {q y t0 z0 : Nat} {now p : List Int} {older : Bool} (hv : HisV w v h) (hnow : Ints w N q y now) (hN : N = none → y = 0) (hp : Ints w T0 t0 z0 p) (hp0 : T0 = none → z0 = 0) :
    Calls Try.prog 35 #[v, .slice N q y, .slice T0 t0 z0, .bool older] w (FindsN h now p older w) := by
  have HV := Lib.hid hv
  have hLL : ∃ A n c, ∃ S sn sc P pn pc, v = .agg (hisC A n c h.most h.at_ S sn sc P pn pc h.older) ∧ Lns w A n c h.lines ∧ RegSl w (.slice P pn pc) h.pattern := by
    obtain ⟨A, n, c, S, sn, sc, P, pn, pc, e, h1, _, _, h4⟩ := hv
    exact ⟨A, n, c, S, sn, sc, P, pn, pc, e, h1, h4⟩
  obtain ⟨A, n, c, S, sn, sc, P, pn, pc, rfl, hL, hP⟩ := hLL
  obtain ⟨ls, mo, at_, sl, pl, ol⟩ := h
  simp only at hL hP
  have HL := Lib.hid hL
  obtain ⟨P', pn', pc', he', hPI, hP0, hpn⟩ := hP
  injection he' with e1 e2 e3
  subst e1; subst e2; subst e3
  have HPI := Lib.hid hPI
  have HPp := Lib.hid hp
  have HN := Lib.hid hL.len
  have HNow := Lib.hid hnow
  have hql := Lib.hid hnow.len
  have htl := Lib.hid hp.len
  have hnm := Nat.le_trans hL.ncap hL.nmax
  have htm := Nat.le_trans hp.ncap hp.nmax
  have hb0 := Lib.hid ((Blk.new w 55 (hisC A n c mo at_ S sn sc P pn pc ol)).ext (Ext.alloc _ (.cells hisZ 55)))
  have hb1 : Hid (Blk ((w.alloc (.cells (hisC A n c mo at_ S sn sc P pn pc ol) 55)).alloc (.cells hisZ 55)) (w.heap.size + 1) 55 hisZ) := Lib.hid (by
    have := Blk.new (w.alloc (.cells (hisC A n c mo at_ S sn sc P pn pc ol) 55)) 55 hisZ
    rwa [World.size_alloc] at this)
  have hx0 : Hid (Ext w ((w.alloc (.cells (hisC A n c mo at_ S sn sc P pn pc ol) 55)).alloc (.cells hisZ 55))) := Lib.hid ((Ext.alloc _ _).to_alloc _)
  have HR := Lib.hid (right_ok (k := 0) (HV.out.ext hx0.out) (hnow.ext hx0.out))
  have hsz0 : Hid (w.heap.size + 2 ≤ ((w.alloc (.cells (hisC A n c mo at_ S sn sc P pn pc ol) 55)).alloc (.cells hisZ 55)).heap.size) := Lib.hid (by simp)
  unfold maxLen at hnm htm
  clear hv hnow hL hp hPI
  unfold hisC hisZ at *
  go_enter Try.func35, Try.ntmps35
  go_wp2_with fail
  refine HR.out.mono ?_
  rintro e w1 ⟨x, rfl, hgd, he1⟩
  have hx1 := Lib.hid (hx0.out.trans he1)
  have B3 := Lib.hid (Blk.ext hb0.out he1)
  have B6 := Lib.hid (Blk.ext hb1.out he1)
  have hsz1 : w.heap.size + 2 ≤ w1.heap.size := Nat.le_trans hsz0.out he1.hsize
  have HG := Lib.hid hgd
  obtain ⟨k0, k1, k2, k3, k4, k5⟩ := cells6 B3.out
  obtain ⟨d0, d1, d2, d3, d4, d5⟩ := cells6 B6.out
  obtain ⟨f0, f1, f2, f3, f4, f5⟩ := frozen6 B6.out
  have HX := Lib.hid (st6_ext hx1.out (show w.heap.size ≤ w.heap.size + 1 by omega) (.slice none 0 0) (.int .i64 0) (.int .i64 0) (.slice none 0 0) (.slice none 0 0) (.bool false))
  have hfin := Lib.hid (st6_blk B6.out (.slice none 0 0) (.int .i64 0) (.int .i64 0) (.slice none 0 0) (.slice none 0 0) (.bool false))
  unfold st6 at HX hfin
  clear HR hb0 hb1 hx0 he1 hgd
  by_cases hx0 : x = 0
  case neg =>
    have hxb : (x != 0) = true := by simpa using hx0
    have hno : Hid (∀ k, ¬ FOk ⟨ls, mo, at_, sl, pl, ol⟩ now p older k) := Lib.hid (fun k hh => hx0 (HG.out.2 hh.1))
    have hx0' := Lib.hid hx0
    clear hx0 HG
    go_wp2_with fail
    refine bodyPost_ret (v := .tuple #[.agg hisZ, .slice none 0 0, .int .i64 x]) ?_ rfl ⟨HX.out, .inr ⟨hno.out, x, rfl, hx0'.out⟩⟩
    exact results_row_tmp2 rfl _ _ (w.heap.size + 1) 55 _ _ _ _ _ rfl rfl rfl hfin.out Try.underlying55 rfl (hist_size rfl)
  case pos =>
    subst hx0
    by_cases ht2 : (200 : Int) < (t0 : Int)
    · have hno : Hid (∀ k, ¬ FOk ⟨ls, mo, at_, sl, pl, ol⟩ now p older k) := Lib.hid (fun k hh => by have := hh.2.1; have := htl.out; omega)
      clear HG
      go_wp2_with fail
      refine bodyPost_ret (v := .tuple #[.agg hisZ, .slice none 0 0, .int .i64 2]) ?_ rfl ⟨HX.out, .inr ⟨hno.out, 2, rfl, by omega⟩⟩
      exact results_row_tmp2 rfl _ _ (w.heap.size + 1) 55 _ _ _ _ _ rfl rfl rfl hfin.out Try.underlying55 rfl (hist_size rfl)
    · have HGd := Lib.hid (HG.out.1 rfl)
      have hg1 := HGd.out.1
      unfold Hi.bad at hg1
      simp only at hg1
      rw [HN.out] at hg1
      have hq2 : q ≤ 200 := by have := HGd.out.2.2.1; have := hql.out; omega
      obtain ⟨a, rfl⟩ : ∃ a : Nat, at_ = a := ⟨at_.toNat, by omega⟩
      have ht3 : (t0 : Int) ≤ 200 := by omega
      have ha : a ≤ n := by omega
      have hn50 : n ≤ 50 := by omega
      have ht4 : t0 ≤ 200 := by omega
      have ht5 : decide ((200 : Int) < (t0 : Int)) = false := by simp; omega
      clear hg1 HG ht2 ht3
      go_upto_if 30 with fail
      go_cut [2] (fun s2 wx => ∃ (T : Option Addr) (t z : Nat), s2 = .slice T t z ∧ t ≤ 200 ∧ Hid (Ints w1 T t z (patE ⟨ls, mo, (a : Int), sl, pl, ol⟩ p)) ∧ Hid (T = none → z = 0) ∧ w1 = wx)
      case first =>
        cases hb : ((t0 : Int) == 0)
        · have hpe : Hid (patE ⟨ls, mo, (a : Int), sl, pl, ol⟩ p = p) := Lib.hid (by unfold patE; rw [if_neg (by rw [htl.out]; simp at hb; omega)])
          clear hb
          go_wp2_with fail
          go_meet
          exact ⟨T0, t0, z0, rfl, ht4, Lib.hid (by rw [hpe.out]; exact HPp.out.ext hx1.out), Lib.hid hp0, rfl⟩
        · have hpe : Hid (patE ⟨ls, mo, (a : Int), sl, pl, ol⟩ p = pl) := Lib.hid (by unfold patE; rw [if_pos (by rw [htl.out]; simp at hb; omega)])
          have hp2 : pn ≤ 200 := by have := (long_iff.1 HGd.out.2.1).2.2; simp only at this; have := HPI.out.len; omega
          clear hb
          go_wp2_with fail
          go_meet
          exact ⟨P, pn, pc, rfl, hp2, Lib.hid (by rw [hpe.out]; exact HPI.out.ext hx1.out), Lib.hid hP0, rfl⟩
      case rest =>
        obtain ⟨T, t, z, rfl, ht200, HT, HT0, rfl⟩ := hcut
        by_cases ht0 : t = 0
        · have hbz : ((t : Int) == 0) = true := by simp; omega
          have hpn0 : Hid ((patE ⟨ls, mo, (a : Int), sl, pl, ol⟩ p) = []) := Lib.hid (List.eq_nil_of_length_eq_zero (by rw [HT.out.len]; exact ht0))
          clear ht0
          have hno : Hid (∀ k, ¬ FOk ⟨ls, mo, (a : Int), sl, pl, ol⟩ now p older k) := Lib.hid (fun k hh => hh.2.2.1 hpn0.out)
          go_wp2_with fail
          refine bodyPost_ret (v := .tuple #[.agg hisZ, .slice none 0 0, .int .i64 6]) ?_ rfl ⟨HX.out, .inr ⟨hno.out, 6, rfl, by omega⟩⟩
          exact results_row_tmp2 rfl _ _ (w.heap.size + 1) 55 _ _ _ _ _ rfl rfl rfl hfin.out Try.underlying55 rfl (hist_size rfl)
        · have hbz : ((t : Int) == 0) = false := by simp; omega
          have hpos : 0 < t := by omega
          clear ht0 HX hfin d0 d1 d2 d3 d4 d5 f0 f1 f2 f3 f4 f5
          cases older
          · -- up
            go_wp2_with fail
            go_loopw [13] (fun s13 wx => ∃ (j : Nat), s13 = .int .i64 (j : Int) ∧ a + 1 ≤ j ∧ j ≤ n + 1 ∧ Hid (fdN ls (patE ⟨ls, mo, (a : Int), sl, pl, ol⟩ p) n (n - (a + 1)) = fdN ls (patE ⟨ls, mo, (a : Int), sl, pl, ol⟩ p) n (n - j)) ∧ Hid (Ext w1 wx)) (fun s13 _ => n + 1 - (intOf s13).toNat)
            case atStart => exact ⟨a + 1, by go_num, by omega, by omega, Lib.hid rfl, Lib.hid (Ext.refl _)⟩
            case round =>
              clear k0 k1 k2 k3 k4 k5
              obtain ⟨j, rfl, hj1, hj2, hfd, hxl⟩ := hrel
              by_cases hlt : j < n
              · have hfd2 : Hid (fdN ls (patE ⟨ls, mo, (a : Int), sl, pl, ol⟩ p) n (n - (a + 1)) = if fitsB (patE ⟨ls, mo, (a : Int), sl, pl, ol⟩ p) (gL ls j) then some j else fdN ls (patE ⟨ls, mo, (a : Int), sl, pl, ol⟩ p) n (n - (j + 1))) := Lib.hid (by
                  rw [hfd.out, show n - j = (n - (j + 1)) + 1 by omega, fdN, show n - (n - (j + 1) + 1) = j by omega])
                clear hfd
                have hxr := Lib.hid (hx1.out.trans hxl.out)
                have B3r := Lib.hid (Blk.ext B3.out hxl.out)
                have B6r := Lib.hid (Blk.ext B6.out hxl.out)
                obtain ⟨ad, v, rfl, hc, B7, m7, c7, rfl, hI7, hB7, hm7⟩ := (HL.out.ext hxr.out).at_ hlt
                obtain ⟨k0, k1, k2, k3, k4, k5⟩ := cells6 B3r.out
                have hm7' : m7 ≤ 200 := by
                  have h1 := (long_iff.1 HGd.out.2.1).1 j (by simp only; rw [HN.out]; exact hlt)
                  simp only at h1
                  have := hI7.len
                  omega
                have HFt := Lib.hid (fits_ok (HT.out.ext hxl.out) hI7 (by omega) hpos (by omega))
                clear hI7 hB7 hm7
                go_wp2_with fail
                refine HFt.out.mono ?_
                rintro e w2 ⟨rfl, he2⟩
                have hx2 := Lib.hid (hxl.out.trans he2)
                clear HFt k0 k1 k2 k3 k4 k5 hc
                cases hf : fitsB (patE ⟨ls, mo, (a : Int), sl, pl, ol⟩ p) (gL ls j)
                · have HF := Lib.hid hf
                  clear hf
                  go_wp2_with fail
                  go_roundw
                  case rel => exact ⟨j + 1, by go_num, by omega, by omega, Lib.hid (by rw [hfd2.out, HF.out]; rfl), Lib.hid hx2.out⟩
                  case measure => simp [intOf]; omega
                · have HF := Lib.hid hf
                  clear hf
                  have hk9 : Hid (FOk ⟨ls, mo, (a : Int), sl, pl, ol⟩ now p false j) := Lib.hid ⟨HGd.out, by rw [htl.out]; exact ht4, fun e => by have := HT.out.len; rw [e] at this; simp at this; omega, by
                    unfold findK
                    simp only [Bool.false_eq_true, if_false, Int.toNat_natCast]
                    rw [HN.out, hfd2.out, HF.out]
                    rfl⟩
                  have hx2' := Lib.hid (hx1.out.trans hx2.out)
                  have HTo := Lib.hid (hto_far (k := j) (HV.out.ext hx2'.out) (by simp only; rw [HN.out]; omega) (HNow.out.ext hx2'.out) hN (by omega) (by simp only; rw [HN.out]; omega))
                  have B32 := Lib.hid (Blk.ext B3r.out he2)
                  have B62 := Lib.hid (Blk.ext B6r.out he2)
                  have hsz2 : w.heap.size + 2 ≤ w2.heap.size := Nat.le_trans hsz1 hx2.out.hsize
                  obtain ⟨k0, k1, k2, k3, k4, k5⟩ := cells6 B32.out
                  clear B3r B6r hxr hxl he2 HF
                  go_wp2_with fail
                  refine HTo.out.mono ?_
                  rintro e w3 ⟨u, L, m, zz, rfl, hO, hLi, hL0, he3, hFN⟩
                  obtain ⟨O', n', c', S', sn', sc', P2, pn2, pc2, rfl, hOL, hOS, hOP⟩ := hO
                  simp only [toH] at hOL hOS
                  have HOL := Lib.hid hOL
                  have HOS := Lib.hid hOS
                  have HLi := Lib.hid hLi
                  have HL0 := Lib.hid hL0
                  have HE3 := Lib.hid he3
                  have HFN := Lib.hid hFN
                  clear HTo k0 k1 k2 k3 k4 k5 hOL hOS hOP hLi hL0 he3 hFN
                  unfold hisC
                  simp only [toH]
                  go_upto_region 18 with fail
                  have b14 := Lib.hid (Blk.new w3 55 #[.slice O' n' c', .int .i64 mo, .int .i64 (j : Int), .slice S' sn' sc', .slice P2 pn2 pc2, .bool ol])
                  have hxa := Lib.hid (Ext.alloc w3 (.cells #[.slice O' n' c', .int .i64 mo, .int .i64 (j : Int), .slice S' sn' sc', .slice P2 pn2 pc2, .bool ol] 55))
                  change Code.wp _ _ _ _ (w3.alloc (.cells #[.slice O' n' c', .int .i64 mo, .int .i64 (j : Int), .slice S' sn' sc', .slice P2 pn2 pc2, .bool ol] 55))
                  generalize w3.alloc (.cells #[.slice O' n' c', .int .i64 mo, .int .i64 (j : Int), .slice S' sn' sc', .slice P2 pn2 pc2, .bool ol] 55) = W at *
                  have hge3 : w3.heap.size ≤ w3.heap.size := Nat.le_refl _
                  have hsz3 : w.heap.size + 2 ≤ w3.heap.size := Nat.le_trans hsz2 HE3.out.hsize
                  have hgW : w3.heap.size < W.heap.size := b14.out.lt
                  have HCl := Lib.hid (clone_ok (((HT.out.ext hx2.out).ext HE3.out).ext hxa.out) HT0.out (by omega))
                  have B63 := Lib.hid (Blk.ext (Blk.ext B62.out HE3.out) hxa.out)
                  go_wp2_with fail
                  refine HCl.out.mono ?_
                  rintro e w4 ⟨Bc, zc, rfl, hOB, hB0, he4⟩
                  have b144 := Lib.hid (Blk.ext b14.out he4)
                  have B64 := Lib.hid (Blk.ext B63.out he4)
                  have hne : w3.heap.size ≠ w.heap.size + 1 := by omega
                  have b145 := Lib.hid ((b144.out.set_ 4 (.slice Bc t zc)).set_ 5 (.bool false))
                  have B65 := Lib.hid (set_other (set_other B64.out hne 4 (.slice Bc t zc)) hne 5 (.bool false))
                  have HX5 := Lib.hid (((hxa.out.trans he4).setCell (p := ⟨w3.heap.size, 4, none⟩) hge3 (.slice Bc t zc)).setCell (p := ⟨w3.heap.size, 5, none⟩) hge3 (.bool false))
                  have HOB5 := Lib.hid ((Own.setCell hOB (p := ⟨w3.heap.size, 4, none⟩) hgW (.slice Bc t zc)).setCell (p := ⟨w3.heap.size, 5, none⟩) hgW (.bool false))
                  have HB0 := Lib.hid hB0
                  obtain ⟨c0, c1, c2, c3, c4, c5⟩ := cells6 b144.out
                  obtain ⟨g0, g1, g2, g3, g4, g5⟩ := frozen6 b144.out
                  clear HCl hOB hB0 he4 b14 hxa B63 B62 B32
                  go_upto_region 19 with fail
                  clear c0 c1 c2 c3 c4 c5 g0 g1 g2 g3 g4 g5 b144 B64
                  generalize (w4.setCell ⟨w3.heap.size, 4, none⟩ (.slice Bc t zc)).setCell ⟨w3.heap.size, 5, none⟩ (.bool false) = W5 at *
                  have HOL5 := Lib.hid ((HOL.out.ext HX5.out).lower (show w.heap.size + 2 ≤ w2.heap.size from hsz2))
                  have HOS5 := Lib.hid ((HOS.out.ext HX5.out).lower (show w.heap.size + 2 ≤ w2.heap.size from hsz2))
                  have HLi5 := Lib.hid (Own.lower (HLi.out.ext HX5.out) (show w.heap.size + 2 ≤ w2.heap.size from hsz2))
                  have HOB6 := Lib.hid (Own.lower HOB5.out (show w.heap.size + 2 ≤ W.heap.size by omega))
                  have HHis : Hid (HisO W5 (w.heap.size + 2) (.agg (hisC O' n' c' mo (j : Int) S' sn' sc' Bc t zc false)) (findH ⟨ls, mo, (a : Int), sl, pl, ol⟩ now p false j)) := Lib.hid ⟨O', n', c', S', sn', sc', Bc, t, zc, rfl, HOL5.out, HOS5.out, Bc, t, zc, rfl, HOB6.out, HB0.out, by omega⟩
                  have hlt1 : w.heap.size + 1 < w.heap.size + 2 := by omega
                  have HO6 := Lib.hid (st6_his HHis.out hlt1 (.slice O' n' c') (.int .i64 mo) (.int .i64 (j : Int)) (.slice S' sn' sc') (.slice Bc t zc) (.bool false))
                  have HL6 := Lib.hid (st6_own HLi5.out hlt1 (.slice O' n' c') (.int .i64 mo) (.int .i64 (j : Int)) (.slice S' sn' sc') (.slice Bc t zc) (.bool false))
                  have HX6 := Lib.hid (st6_ext ((hx2'.out.trans HE3.out).trans HX5.out) (show w.heap.size ≤ w.heap.size + 1 by omega) (.slice O' n' c') (.int .i64 mo) (.int .i64 (j : Int)) (.slice S' sn' sc') (.slice Bc t zc) (.bool false))
                  have hf6 := Lib.hid (st6_blk B65.out (.slice O' n' c') (.int .i64 mo) (.int .i64 (j : Int)) (.slice S' sn' sc') (.slice Bc t zc) (.bool false))
                  have HF6 := Lib.hid (st6_hisN (show HisN W5 (w.heap.size + 2) (.slice L m zz) (.agg (hisC O' n' c' mo (j : Int) S' sn' sc' Bc t zc false)) (findH ⟨ls, mo, (a : Int), sl, pl, ol⟩ now p false j) from HisN.pat ((HFN.out.ext HX5.out).lower hsz2) ⟨Bc, t, zc, rfl, HOB6.out, HB0.out, by omega⟩ (fun g hg e => by have a1 := (Own.blk HOB5.out g hg).1; have a2 := (Own.blk HLi.out g e).2; omega)) hlt1 (.slice O' n' c') (.int .i64 mo) (.int .i64 (j : Int)) (.slice S' sn' sc') (.slice Bc t zc) (.bool false))
                  obtain ⟨c0, c1, c2, c3, c4, c5⟩ := cells6 b145.out
                  obtain ⟨d0, d1, d2, d3, d4, d5⟩ := cells6 B65.out
                  obtain ⟨f0, f1, f2, f3, f4, f5⟩ := frozen6 B65.out
                  unfold st6 at HO6 HL6 HX6 hf6 HF6
                  clear HFN HOL HOS HLi HE3 HX5 HOB5 HOL5 HOS5 HLi5 HOB6 HHis B65 b145
                  go_wp2_with fail
                  refine bodyPost_ret (v := .tuple #[.agg (hisC O' n' c' mo (j : Int) S' sn' sc' Bc t zc false), .slice L m zz, .int .i64 0]) ?_ rfl ⟨HX6.out, .inl ⟨j, hk9.out, by simp only; rw [HN.out]; exact hlt, _, L, m, zz, rfl, HO6.out.lower (by omega), Own.lower HL6.out (by omega), HL0.out, HF6.out.lower (by omega)⟩⟩
                  exact results_row_tmp2 rfl _ _ (w.heap.size + 1) 55 _ _ _ _ _ rfl rfl rfl hf6.out Try.underlying55 rfl (hist_size rfl)
              · have hno0 : Hid (fdN ls (patE ⟨ls, mo, (a : Int), sl, pl, ol⟩ p) n (n - (a + 1)) = none) := Lib.hid (by rw [hfd.out, show n - j = 0 by omega, fdN])
                have hge : n ≤ j := by omega
                have hd : decide (j < n) = false := by simp; omega
                have hd2 : decide ((j : Int) < (n : Int)) = false := by simp; omega
                clear hlt hfd
                have hxr := Lib.hid (hx1.out.trans hxl.out)
                have B3r := Lib.hid (Blk.ext B3.out hxl.out)
                have B6r := Lib.hid (Blk.ext B6.out hxl.out)
                obtain ⟨k0, k1, k2, k3, k4, k5⟩ := cells6 B3r.out
                obtain ⟨d0, d1, d2, d3, d4, d5⟩ := cells6 B6r.out
                obtain ⟨f0, f1, f2, f3, f4, f5⟩ := frozen6 B6r.out
                have HX := Lib.hid (st6_ext hxr.out (show w.heap.size ≤ w.heap.size + 1 by omega) (.slice none 0 0) (.int .i64 0) (.int .i64 0) (.slice none 0 0) (.slice none 0 0) (.bool false))
                have hfin := Lib.hid (st6_blk B6r.out (.slice none 0 0) (.int .i64 0) (.int .i64 0) (.slice none 0 0) (.slice none 0 0) (.bool false))
                unfold st6 at HX hfin
                have hno : Hid (∀ k, ¬ FOk ⟨ls, mo, (a : Int), sl, pl, ol⟩ now p false k) := Lib.hid (fun k hh => by
                  have h1 := hh.2.2.2
                  unfold findK at h1
                  simp only [Bool.false_eq_true, if_false, Int.toNat_natCast] at h1
                  rw [HN.out, hno0.out] at h1
                  cases h1)
                go_wp2_with fail
                refine bodyPost_ret (v := .tuple #[.agg hisZ, .slice none 0 0, .int .i64 5]) ?_ rfl ⟨HX.out, .inr ⟨hno.out, 5, rfl, by omega⟩⟩
                exact results_row_tmp2 rfl _ _ (w.heap.size + 1) 55 _ _ _ _ _ rfl rfl rfl hfin.out Try.underlying55 rfl (hist_size rfl)
          · -- down
            go_wp2_with fail
            go_loopw [13] (fun s13 wx => ∃ (j : Nat) (i : Int), s13 = .int .i64 i ∧ Hid (i = (j : Int) - 1) ∧ j ≤ a ∧ Hid (fdO ls (patE ⟨ls, mo, (a : Int), sl, pl, ol⟩ p) a = fdO ls (patE ⟨ls, mo, (a : Int), sl, pl, ol⟩ p) j) ∧ Hid (Ext w1 wx)) (fun s13 _ => (intOf s13 + 1).toNat)
            case atStart => exact ⟨a, _, rfl, Lib.hid (by omega), Nat.le_refl _, Lib.hid rfl, Lib.hid (Ext.refl _)⟩
            case round =>
              clear k0 k1 k2 k3 k4 k5
              obtain ⟨j1, i, rfl, hij, hj1, hfd, hxl⟩ := hrel
              rcases j1 with _ | j
              · obtain rfl : i = -1 := by have := hij.out; omega
                have hno0 : Hid (fdO ls (patE ⟨ls, mo, (a : Int), sl, pl, ol⟩ p) a = none) := Lib.hid (by rw [hfd.out, fdO])
                clear hij hfd
                have hxr := Lib.hid (hx1.out.trans hxl.out)
                have B3r := Lib.hid (Blk.ext B3.out hxl.out)
                have B6r := Lib.hid (Blk.ext B6.out hxl.out)
                obtain ⟨k0, k1, k2, k3, k4, k5⟩ := cells6 B3r.out
                obtain ⟨d0, d1, d2, d3, d4, d5⟩ := cells6 B6r.out
                obtain ⟨f0, f1, f2, f3, f4, f5⟩ := frozen6 B6r.out
                have HX := Lib.hid (st6_ext hxr.out (show w.heap.size ≤ w.heap.size + 1 by omega) (.slice none 0 0) (.int .i64 0) (.int .i64 0) (.slice none 0 0) (.slice none 0 0) (.bool false))
                have hfin := Lib.hid (st6_blk B6r.out (.slice none 0 0) (.int .i64 0) (.int .i64 0) (.slice none 0 0) (.slice none 0 0) (.bool false))
                unfold st6 at HX hfin
                have hno : Hid (∀ k, ¬ FOk ⟨ls, mo, (a : Int), sl, pl, ol⟩ now p true k) := Lib.hid (fun k hh => by
                  have h1 := hh.2.2.2
                  unfold findK at h1
                  simp only [if_true, Int.toNat_natCast] at h1
                  rw [hno0.out] at h1
                  cases h1)
                go_wp2_with fail
                refine bodyPost_ret (v := .tuple #[.agg hisZ, .slice none 0 0, .int .i64 5]) ?_ rfl ⟨HX.out, .inr ⟨hno.out, 5, rfl, by omega⟩⟩
                exact results_row_tmp2 rfl _ _ (w.heap.size + 1) 55 _ _ _ _ _ rfl rfl rfl hfin.out Try.underlying55 rfl (hist_size rfl)
              · obtain rfl : i = (j : Int) := by have := hij.out; omega
                have hlt : j < n := by omega
                have hfd2 : Hid (fdO ls (patE ⟨ls, mo, (a : Int), sl, pl, ol⟩ p) a = if fitsB (patE ⟨ls, mo, (a : Int), sl, pl, ol⟩ p) (gL ls j) then some j else fdO ls (patE ⟨ls, mo, (a : Int), sl, pl, ol⟩ p) j) := Lib.hid (by rw [hfd.out, fdO])
                clear hfd hij
                have hxr := Lib.hid (hx1.out.trans hxl.out)
                have B3r := Lib.hid (Blk.ext B3.out hxl.out)
                have B6r := Lib.hid (Blk.ext B6.out hxl.out)
                obtain ⟨ad, v, rfl, hc, B7, m7, c7, rfl, hI7, hB7, hm7⟩ := (HL.out.ext hxr.out).at_ hlt
                obtain ⟨k0, k1, k2, k3, k4, k5⟩ := cells6 B3r.out
                have hm7' : m7 ≤ 200 := by
                  have h1 := (long_iff.1 HGd.out.2.1).1 j (by simp only; rw [HN.out]; exact hlt)
                  simp only at h1
                  have := hI7.len
                  omega
                have HFt := Lib.hid (fits_ok (HT.out.ext hxl.out) hI7 (by omega) hpos (by omega))
                clear hI7 hB7 hm7
                go_wp2_with fail
                refine HFt.out.mono ?_
                rintro e w2 ⟨rfl, he2⟩
                have hx2 := Lib.hid (hxl.out.trans he2)
                clear HFt k0 k1 k2 k3 k4 k5 hc
                cases hf : fitsB (patE ⟨ls, mo, (a : Int), sl, pl, ol⟩ p) (gL ls j)
                · have HF := Lib.hid hf
                  clear hf
                  go_wp2_with fail
                  go_roundw
                  case rel => exact ⟨j, _, rfl, Lib.hid (by omega), by omega, Lib.hid (by rw [hfd2.out, HF.out]; rfl), Lib.hid hx2.out⟩
                  case measure => simp [intOf]; omega
                · have HF := Lib.hid hf
                  clear hf
                  have hk9 : Hid (FOk ⟨ls, mo, (a : Int), sl, pl, ol⟩ now p true j) := Lib.hid ⟨HGd.out, by rw [htl.out]; exact ht4, fun e => by have := HT.out.len; rw [e] at this; simp at this; omega, by
                    unfold findK
                    simp only [if_true, Int.toNat_natCast]
                    rw [hfd2.out, HF.out]
                    rfl⟩
                  have hx2' := Lib.hid (hx1.out.trans hx2.out)
                  have HTo := Lib.hid (hto_far (k := j) (HV.out.ext hx2'.out) (by simp only; rw [HN.out]; omega) (HNow.out.ext hx2'.out) hN (by omega) (by simp only; rw [HN.out]; omega))
                  have B32 := Lib.hid (Blk.ext B3r.out he2)
                  have B62 := Lib.hid (Blk.ext B6r.out he2)
                  have hsz2 : w.heap.size + 2 ≤ w2.heap.size := Nat.le_trans hsz1 hx2.out.hsize
                  obtain ⟨k0, k1, k2, k3, k4, k5⟩ := cells6 B32.out
                  clear B3r B6r hxr hxl he2 HF
                  go_wp2_with fail
                  refine HTo.out.mono ?_
                  rintro e w3 ⟨u, L, m, zz, rfl, hO, hLi, hL0, he3, hFN⟩
                  obtain ⟨O', n', c', S', sn', sc', P2, pn2, pc2, rfl, hOL, hOS, hOP⟩ := hO
                  simp only [toH] at hOL hOS
                  have HOL := Lib.hid hOL
                  have HOS := Lib.hid hOS
                  have HLi := Lib.hid hLi
                  have HL0 := Lib.hid hL0
                  have HE3 := Lib.hid he3
                  have HFN := Lib.hid hFN
                  clear HTo k0 k1 k2 k3 k4 k5 hOL hOS hOP hLi hL0 he3 hFN
                  unfold hisC
                  simp only [toH]
                  go_upto_region 18 with fail
                  have b14 := Lib.hid (Blk.new w3 55 #[.slice O' n' c', .int .i64 mo, .int .i64 (j : Int), .slice S' sn' sc', .slice P2 pn2 pc2, .bool ol])
                  have hxa := Lib.hid (Ext.alloc w3 (.cells #[.slice O' n' c', .int .i64 mo, .int .i64 (j : Int), .slice S' sn' sc', .slice P2 pn2 pc2, .bool ol] 55))
                  change Code.wp _ _ _ _ (w3.alloc (.cells #[.slice O' n' c', .int .i64 mo, .int .i64 (j : Int), .slice S' sn' sc', .slice P2 pn2 pc2, .bool ol] 55))
                  generalize w3.alloc (.cells #[.slice O' n' c', .int .i64 mo, .int .i64 (j : Int), .slice S' sn' sc', .slice P2 pn2 pc2, .bool ol] 55) = W at *
                  have hge3 : w3.heap.size ≤ w3.heap.size := Nat.le_refl _
                  have hsz3 : w.heap.size + 2 ≤ w3.heap.size := Nat.le_trans hsz2 HE3.out.hsize
                  have hgW : w3.heap.size < W.heap.size := b14.out.lt
                  have HCl := Lib.hid (clone_ok (((HT.out.ext hx2.out).ext HE3.out).ext hxa.out) HT0.out (by omega))
                  have B63 := Lib.hid (Blk.ext (Blk.ext B62.out HE3.out) hxa.out)
                  go_wp2_with fail
                  refine HCl.out.mono ?_
                  rintro e w4 ⟨Bc, zc, rfl, hOB, hB0, he4⟩
                  have b144 := Lib.hid (Blk.ext b14.out he4)
                  have B64 := Lib.hid (Blk.ext B63.out he4)
                  have hne : w3.heap.size ≠ w.heap.size + 1 := by omega
                  have b145 := Lib.hid ((b144.out.set_ 4 (.slice Bc t zc)).set_ 5 (.bool true))
                  have B65 := Lib.hid (set_other (set_other B64.out hne 4 (.slice Bc t zc)) hne 5 (.bool true))
                  have HX5 := Lib.hid (((hxa.out.trans he4).setCell (p := ⟨w3.heap.size, 4, none⟩) hge3 (.slice Bc t zc)).setCell (p := ⟨w3.heap.size, 5, none⟩) hge3 (.bool true))
                  have HOB5 := Lib.hid ((Own.setCell hOB (p := ⟨w3.heap.size, 4, none⟩) hgW (.slice Bc t zc)).setCell (p := ⟨w3.heap.size, 5, none⟩) hgW (.bool true))
                  have HB0 := Lib.hid hB0
                  obtain ⟨c0, c1, c2, c3, c4, c5⟩ := cells6 b144.out
                  obtain ⟨g0, g1, g2, g3, g4, g5⟩ := frozen6 b144.out
                  clear HCl hOB hB0 he4 b14 hxa B63 B62 B32
                  go_upto_region 19 with fail
                  clear c0 c1 c2 c3 c4 c5 g0 g1 g2 g3 g4 g5 b144 B64
                  generalize (w4.setCell ⟨w3.heap.size, 4, none⟩ (.slice Bc t zc)).setCell ⟨w3.heap.size, 5, none⟩ (.bool true) = W5 at *
                  have HOL5 := Lib.hid ((HOL.out.ext HX5.out).lower (show w.heap.size + 2 ≤ w2.heap.size from hsz2))
                  have HOS5 := Lib.hid ((HOS.out.ext HX5.out).lower (show w.heap.size + 2 ≤ w2.heap.size from hsz2))
                  have HLi5 := Lib.hid (Own.lower (HLi.out.ext HX5.out) (show w.heap.size + 2 ≤ w2.heap.size from hsz2))
                  have HOB6 := Lib.hid (Own.lower HOB5.out (show w.heap.size + 2 ≤ W.heap.size by omega))
                  have HHis : Hid (HisO W5 (w.heap.size + 2) (.agg (hisC O' n' c' mo (j : Int) S' sn' sc' Bc t zc true)) (findH ⟨ls, mo, (a : Int), sl, pl, ol⟩ now p true j)) := Lib.hid ⟨O', n', c', S', sn', sc', Bc, t, zc, rfl, HOL5.out, HOS5.out, Bc, t, zc, rfl, HOB6.out, HB0.out, by omega⟩
                  have hlt1 : w.heap.size + 1 < w.heap.size + 2 := by omega
                  have HO6 := Lib.hid (st6_his HHis.out hlt1 (.slice O' n' c') (.int .i64 mo) (.int .i64 (j : Int)) (.slice S' sn' sc') (.slice Bc t zc) (.bool true))
                  have HL6 := Lib.hid (st6_own HLi5.out hlt1 (.slice O' n' c') (.int .i64 mo) (.int .i64 (j : Int)) (.slice S' sn' sc') (.slice Bc t zc) (.bool true))
                  have HX6 := Lib.hid (st6_ext ((hx2'.out.trans HE3.out).trans HX5.out) (show w.heap.size ≤ w.heap.size + 1 by omega) (.slice O' n' c') (.int .i64 mo) (.int .i64 (j : Int)) (.slice S' sn' sc') (.slice Bc t zc) (.bool true))
                  have hf6 := Lib.hid (st6_blk B65.out (.slice O' n' c') (.int .i64 mo) (.int .i64 (j : Int)) (.slice S' sn' sc') (.slice Bc t zc) (.bool true))
                  have HF6 := Lib.hid (st6_hisN (show HisN W5 (w.heap.size + 2) (.slice L m zz) (.agg (hisC O' n' c' mo (j : Int) S' sn' sc' Bc t zc true)) (findH ⟨ls, mo, (a : Int), sl, pl, ol⟩ now p true j) from HisN.pat ((HFN.out.ext HX5.out).lower hsz2) ⟨Bc, t, zc, rfl, HOB6.out, HB0.out, by omega⟩ (fun g hg e => by have a1 := (Own.blk HOB5.out g hg).1; have a2 := (Own.blk HLi.out g e).2; omega)) hlt1 (.slice O' n' c') (.int .i64 mo) (.int .i64 (j : Int)) (.slice S' sn' sc') (.slice Bc t zc) (.bool true))
                  obtain ⟨c0, c1, c2, c3, c4, c5⟩ := cells6 b145.out
                  obtain ⟨d0, d1, d2, d3, d4, d5⟩ := cells6 B65.out
                  obtain ⟨f0, f1, f2, f3, f4, f5⟩ := frozen6 B65.out
                  unfold st6 at HO6 HL6 HX6 hf6 HF6
                  clear HFN HOL HOS HLi HE3 HX5 HOB5 HOL5 HOS5 HLi5 HOB6 HHis B65 b145
                  go_wp2_with fail
                  refine bodyPost_ret (v := .tuple #[.agg (hisC O' n' c' mo (j : Int) S' sn' sc' Bc t zc true), .slice L m zz, .int .i64 0]) ?_ rfl ⟨HX6.out, .inl ⟨j, hk9.out, by simp only; rw [HN.out]; exact hlt, _, L, m, zz, rfl, HO6.out.lower (by omega), Own.lower HL6.out (by omega), HL0.out, HF6.out.lower (by omega)⟩⟩
                  exact results_row_tmp2 rfl _ _ (w.heap.size + 1) 55 _ _ _ _ _ rfl rfl rfl hf6.out Try.underlying55 rfl (hist_size rfl)

theorem find_ok {w : World} {v : Value} {h : Hi} {N T0 : Option Addr} {q y t0 z0 : Nat} {now p : List Int} {older : Bool} (hv : HisV w v h) (hnow : Ints w N q y now) (hN : N = none → y = 0) (hp : Ints w T0 t0 z0 p) (hp0 : T0 = none → z0 = 0) :
    Calls Try.prog 35 #[v, .slice N q y, .slice T0 t0 z0, .bool older] w (Finds h now p older w) :=
  (find_far hv hnow hN hp hp0).mono fun _ _ h => h.finds
end Go.Proofs.Ytbhbakejpgndmaa
