/-
  The walk of RegBack.
-/
import Derived.Test.YtbhbakejpgndmaaRegG
import Derived.Test.YtbhbakejpgndmaaLib
import Derived.Test.YtbhbakejpgndmaaConc
import Derived.Deep.RegionHeld3
import Derived.Deep.DeepCutAuto
import Derived.Deep.CutRange
namespace Go.Proofs.Ytbhbakejpgndmaa
open Go.RowKit
set_option linter.unusedVariables false
set_option linter.unusedSimpArgs false

theorem regNo_c : regNo 99 = some (3, false) := by decide
theorem put_c {w' : World} {b : Nat} {ds : Array Value} (h : PutO w' b ds (putF (fun _ => []) 3 false (chars ⟨#[120]⟩))) :
    ∃ A0 n0 c0 A3 n3 c3, ds.size = 27 ∧ ds[0]? = some (.slice A0 n0 c0) ∧ ds[3]? = some (.slice A3 n3 c3) ∧ Ints w' A0 n0 c0 (chars ⟨#[120]⟩) ∧ Ints w' A3 n3 c3 (chars ⟨#[120]⟩) := by
  obtain ⟨v0, h0, A0, n0, c0, rfl, hI0, _⟩ := h.1.2 0 (by omega)
  obtain ⟨v3, h3, A3, n3, c3, rfl, hI3, _⟩ := h.1.2 3 (by omega)
  exact ⟨A0, n0, c0, A3, n3, c3, h.1.1, h0, h3, hI0.ints, hI3.ints⟩

/-- Put, whatever comes of it. -/
def PutAny (rs : Nat → List Int) (i : Nat) (m : Bool) (text : List Int) (rs' : Nat → List Int) (e : Int) : Prop :=
  (putBig rs i m text ∧ e = 2 ∧ rs' = fun _ => []) ∨ (¬ putBig rs i m text ∧ e = 0 ∧ rs' = putF rs i m text)
theorem put_any {w : World} {cs : Array Value} {rs : Nat → List Int} {k : Int} {A : Option Addr} {n c : Nat} {text : List Int} {i : Nat} {m : Bool}
    (hr : Regs w cs rs) (ht : Ints w A n c text) (hA : A = none → c = 0) (h : regNo k = some (i, m)) :
    Calls Try.prog 20 #[.agg cs, .int .i64 k, .slice A n c] w fun e w' => ∃ (ds : Array Value) (x : Int) (rs' : Nat → List Int), e = .returned (.tuple #[.agg ds, .int .i64 x]) ∧ Regs w' ds rs' ∧ PutAny rs i m text rs' x ∧ Ext w w' := by
  by_cases hb : putBig rs i m text
  · exact (put_large hr ht h hb).mono fun e w' ⟨he, hx⟩ => ⟨noRegs, 2, _, he, (noRegs_own w' 0).regs, .inl ⟨hb, rfl, rfl⟩, hx⟩
  · exact (put_ok hr ht hA h hb).mono fun e w' ⟨ds, he, hO, hx⟩ => ⟨ds, 0, _, he, hO.1.regs, .inr ⟨hb, rfl, rfl⟩, hx⟩
theorem small_no {k : Int} (h1 : 97 ≤ k) (h2 : k ≤ 122) : ∃ i : Nat, 1 ≤ i ∧ i ≤ 26 ∧ k = (i : Int) + 96 ∧ regNo k = some (i, false) ∧ regNo (k - 97 + 65) = some (i, true) := by
  refine ⟨(k - 96).toNat, by omega, by omega, by omega, ?_, ?_⟩
  · unfold regNo
    rw [if_neg (by omega), if_pos ⟨h1, h2⟩]
  · unfold regNo
    rw [if_neg (by omega), if_neg (by omega), if_pos (by omega)]
    congr 2
    omega
theorem upd_same (rs : Nat → List Int) (i : Nat) (l : List Int) : upd rs i l i = l := by unfold upd; rw [if_pos rfl]
theorem upd_ne {rs : Nat → List Int} {i j : Nat} {l : List Int} (h : j ≠ i) : upd rs i l j = rs j := by unfold upd; rw [if_neg h]
theorem putF_at (rs : Nat → List Int) {i : Nat} (m : Bool) (t : List Int) (hi : 1 ≤ i) : putF rs i m t i = if m = true then rs i ++ t else t := by
  unfold putF; rw [upd_ne (by omega), upd_same]
theorem putF_zero (rs : Nat → List Int) (i : Nat) (m : Bool) (t : List Int) : putF rs i m t 0 = if m = true then rs i ++ t else t := by
  unfold putF; rw [upd_same]
theorem putF_ne (rs : Nat → List Int) {i j : Nat} (m : Bool) (t : List Int) (hj : 1 ≤ j) (hji : j ≠ i) : putF rs i m t j = rs j := by
  unfold putF; rw [upd_ne (by omega), upd_ne hji]
theorem get_at {rs : Nat → List Int} {k : Int} {i : Nat} {m : Bool} (h : regNo k = some (i, m)) : getL rs k = rs i ∧ getE' rs k = if (rs i).length = 0 then 6 else 0 := by
  unfold getL getE'; rw [h]; exact ⟨rfl, rfl⟩
theorem get_other {rs : Nat → List Int} {k o : Int} {i : Nat} {t : List Int} (hk : k = (i : Int) + 96) (hi : 1 ≤ i) (hi2 : i ≤ 26) (h1 : o ≠ k) (h2 : o ≠ k - 97 + 65) (h0 : o ≠ 0) : getL (putF rs i false t) o = getL rs o ∧ getE' (putF rs i false t) o = getE' rs o := by
  cases h : regNo o with
  | none => unfold getL getE'; rw [h]; exact ⟨rfl, rfl⟩
  | some p =>
    obtain ⟨j, m⟩ := p
    have hj : 1 ≤ j ∧ j ≠ i := by
      unfold regNo at h
      rw [if_neg h0] at h
      split at h
      · injection h with h; injection h with h _; omega
      · split at h
        · injection h with h; injection h with h _; omega
        · cases h
    obtain ⟨e1, e2⟩ := get_at (rs := putF rs i false t) h
    obtain ⟨e3, e4⟩ := get_at (rs := rs) h
    rw [e1, e2, e3, e4, putF_ne rs false t hj.1 hj.2]
    exact ⟨rfl, rfl⟩

theorem LowR.call {W w1 w2 : World} {g : Nat} {u v : Value} (h : w1.cell? ⟨g, 3, none⟩ = some u ∧ w1.cell? ⟨g, 0, none⟩ = some v ∧ Ext W w1) (he : Ext w1 w2) : w2.cell? ⟨g, 3, none⟩ = some u ∧ w2.cell? ⟨g, 0, none⟩ = some v ∧ Ext W w2 :=
  ⟨he.cell h.1, he.cell h.2.1, h.2.2.trans he⟩
set_option maxRecDepth 100000 in
set_option maxHeartbeats 8000000 in
theorem regBack_walk {w : World} {cs : Array Value} {rs : Nat → List Int} {k o : Int} {A B : Option Addr} {n c m d : Nat} {a b : List Int}
    (hr : Regs w cs rs) (ha : Ints w A n c a) (hA : A = none → c = 0) (hb : Ints w B m d b) (hB : B = none → d = 0) :
    Calls Try.prog 7 #[.agg cs, .int .i64 k, .int .i64 o, .slice A n c, .slice B m d] w fun e w' => e = .returned (.bool true) ∧ Ext w w' := by
  have HOf := Lib.hid (of_ok ⟨#[120]⟩ (w.alloc (.cells cs 40)) (by decide))
  have HR := Lib.hid hr
  have HIa := Lib.hid ha
  have HIb := Lib.hid hb
  have h0 := Lib.hid (Blk.new w 40 cs)
  have hx0 := Lib.hid (Ext.alloc w (.cells cs 40))
  clear hr ha hb
  go_enter Try.func7, Try.ntmps7
  go_wp2_with fail
  refine HOf.out.mono ?_
  rintro e w1 ⟨A1, c1, rfl, o1, he1⟩
  have hx1 := hx0.out.trans he1
  have HP := Lib.hid (put_ok (w := w1) (cs := noRegs) (rs := fun _ => []) (k := 99) (noRegs_own w1 0).regs o1.ints (Own.nocap o1) regNo_c (by unfold putBig; decide))
  have b1 := h0.out.ext he1
  clear HOf h0 hx0 o1 he1
  go_wp2_with fail
  refine HP.out.mono ?_
  rintro e w2 ⟨ds, rfl, hO, he2⟩
  obtain ⟨D0, n0, d0, D3, n3, d3, hds, v0, v3, I0, I3⟩ := put_c hO
  have hx2 := hx1.trans he2
  have b2 := b1.ext he2
  have hone := hO.1.regs.one
  have hns : noRegs.size = ds.size := by rw [hds]; rfl
  have B11 := Lib.hid (Blk.new w2 40 noRegs)
  have hgr : Ext w2 (w2.alloc (.cells ds 40)) := Ext.alloc _ _
  have B0 := Lib.hid (b2.ext hgr)
  have BD := Lib.hid (Blk.new w2 40 ds)
  have X3 := Lib.hid (hx2.trans hgr)
  have J0 := Lib.hid (I0.ext hgr)
  have J3 := Lib.hid (I3.ext hgr)
  rw [← World.setRow_alloc_new w2 noRegs ds 40] at B0 BD X3 J0 J3
  clear HP hx1 b1 hO he2 hx2 b2 hgr I0 I3
  have hds' := Lib.hid hds
  have hone' := Lib.hid hone
  have hns' := Lib.hid hns
  clear hds hone hns
  go_upto_region 2 with (refine wpList_store_row rfl 40 (.tmp 11) (.tmp 31) rfl w2.heap.size ds rfl rfl 40 noRegs B11.out (regs_size hds'.out) hns'.out hone'.out ?_)
  change Code.wp _ _ _ _ ((w2.alloc (.cells noRegs 40)).setRow w2.heap.size ds)
  clear B11 hds' hone' hns'
  generalize (w2.alloc (.cells noRegs 40)).setRow w2.heap.size ds = W at *
  generalize w2.heap.size = g11 at *
  go_cut [48] (fun s48 wx => s48 = .bool false ∧ Hid (Ext W wx))
  case first =>
    have q0 : W.cell? ⟨g11, 0, none⟩ = some (.slice D0 n0 d0) := by rw [BD.out.cell 0, v0]
    have q3 : W.cell? ⟨g11, 3, none⟩ = some (.slice D3 n3 d3) := by rw [BD.out.cell 3, v3]
    have hxd := Ext.drew W
    have HOf := fun w => Lib.hid (of_ok ⟨#[120]⟩ w (by decide))
    clear B0 BD X3 v0 v3
    go_region_held3 (fun w' => w'.cell? ⟨g11, 3, none⟩ = some (.slice D3 n3 d3) ∧ w'.cell? ⟨g11, 0, none⟩ = some (.slice D0 n0 d0) ∧ Ext W w') (first
      | assumption
      | exact ⟨q3, q0, hxd⟩) (first
      | (go_at_call 30
         refine ((HOf _).out).mono ?_
         rintro e wa ⟨B1, e1, rfl, hoa, hea⟩
         have hSA := LowR.call (W := W) (g := g11) (u := .slice D3 n3 d3) (v := .slice D0 n0 d0) (by assumption) hea)
      | (go_at_call 27
         refine (equal_ext (l := chars ⟨#[120]⟩) (l' := chars ⟨#[120]⟩) (by first | exact J3.out.ext hSA.2.2 | exact J0.out.ext hSA.2.2) hoa.ints).mono ?_
         rintro e wb ⟨rfl, heb⟩
         have hSB := LowR.call (W := W) (g := g11) (u := .slice D3 n3 d3) (v := .slice D0 n0 d0) (by assumption) heb
         rw [eqB_true.2 rfl]))
    go_wp2_with fail
    go_meet
    exact ⟨rfl, Lib.hid hSB.2.2⟩
  case rest =>
    obtain ⟨rfl, HW⟩ := hcut
    have X4 := Lib.hid (X3.out.trans HW.out)
    have B4 := Lib.hid (B0.out.ext HW.out)
    clear v0 v3 B0 BD X3 J0 J3 HW
    by_cases hk : 97 ≤ k ∧ k ≤ 122
    · obtain ⟨hk1, hk2⟩ := hk
      obtain ⟨i, hi1, hi2, hki, hn1, hn2⟩ := small_no hk1 hk2
      have HK := Lib.hid hki
      have HN1 := Lib.hid hn1
      have HN2 := Lib.hid hn2
      clear hki hn1 hn2
      have HP := Lib.hid (put_any (HR.out.ext X4.out) (HIa.out.ext X4.out) hA HN1.out)
      have hcs := Lib.hid HR.out.1
      go_wp2_with (refine wpList_load_row rfl 40 (.tmp 5) rfl w.heap.size rfl 40 cs (0, 0) _ B4.out Try.underlying40 rfl (regs_size hcs.out) ?_)
      refine HP.out.mono ?_
      rintro e w5 ⟨ds2, x2, rs2, rfl, hr2, hpa, he5⟩
      have hds2 := hr2.1
      have hone2 := Lib.hid hr2.one
      have hns2 : noRegs.size = ds2.size := by rw [hds2]; rfl
      have B13 := Lib.hid (Blk.new w5 40 noRegs)
      have hgr : Ext w5 (w5.alloc (.cells ds2 40)) := Ext.alloc _ _
      have B5 := Lib.hid ((Blk.ext B4.out he5).ext hgr)
      have BD := Lib.hid (Blk.new w5 40 ds2)
      have X5 := Lib.hid ((X4.out.trans he5).trans hgr)
      have R5 := Lib.hid (hr2.ext hgr)
      have hg5 : w.heap.size < w5.heap.size := (Blk.ext B4.out he5).lt
      rw [← World.setRow_alloc_new w5 noRegs ds2 40] at B5 BD X5 R5
      have Hns2 := Lib.hid hns2
      have Hds2 := Lib.hid hds2
      have Hpa := Lib.hid hpa
      clear HP hns2 hds2 hpa hr2 he5 hgr X4 B4
      go_upto_region 7 with (refine wpList_store_row rfl 40 (.tmp 13) (.tmp 60) rfl w5.heap.size ds2 rfl rfl 40 noRegs B13.out (regs_size Hds2.out) Hns2.out hone2.out ?_)
      change Code.wp _ _ _ _ ((w5.alloc (.cells noRegs 40)).setRow w5.heap.size ds2)
      clear B13 Hns2 hone2
      generalize (w5.alloc (.cells noRegs 40)).setRow w5.heap.size ds2 = W2 at *
      generalize w5.heap.size = g13 at *
      rcases Hpa.out with ⟨hb, rfl, rfl⟩ | ⟨hb, rfl, rfl⟩
      · -- too much
        clear hb Hpa HN1 HN2 HK
        have HS := Lib.hid (sameRegs_ok R5.out (noRegs_own W2 0).regs)
        go_wp2_with (refine wpList_load_row rfl 40 (.tmp 13) rfl g13 rfl 40 ds2 (0, 0) _ BD.out Try.underlying40 rfl (regs_size Hds2.out) ?_)
        refine HS.out.mono ?_
        rintro e w6 ⟨rfl, he6⟩
        have hend := X5.out.trans he6
        clear HS X5 B5 BD R5
        go_wp2_with fail
        go_ret
        exact ⟨rfl, hend⟩
      · have hal : Hid (a.length ≤ 200) := Lib.hid (by unfold putBig at hb; omega)
        clear hb Hpa
        have HP := Lib.hid (put_any R5.out (HIb.out.ext X5.out) hB HN2.out)
        go_wp2_with (refine wpList_load_row rfl 40 (.tmp 13) rfl g13 rfl 40 ds2 (0, 0) _ BD.out Try.underlying40 rfl (regs_size Hds2.out) ?_)
        refine HP.out.mono ?_
        rintro e w6 ⟨ds3, x3, rs3, rfl, hr3, hpa, he6⟩
        have hds3 := hr3.1
        have hone3 := Lib.hid hr3.one
        have hns3 : noRegs.size = ds3.size := by rw [hds3]; rfl
        have B15 := Lib.hid (Blk.new w6 40 noRegs)
        have hgr : Ext w6 (w6.alloc (.cells ds3 40)) := Ext.alloc _ _
        have B6 := Lib.hid ((Blk.ext B5.out he6).ext hgr)
        have BD6 := Lib.hid ((Blk.ext BD.out he6).ext hgr)
        have BE := Lib.hid (Blk.new w6 40 ds3)
        have X6 := Lib.hid ((X5.out.trans he6).trans hgr)
        have R6 := Lib.hid ((R5.out.ext he6).ext hgr)
        have R7 := Lib.hid (hr3.ext hgr)
        have hg6 : g13 < w6.heap.size := (Blk.ext BD.out he6).lt
        rw [← World.setRow_alloc_new w6 noRegs ds3 40] at B6 BD6 BE X6 R6 R7
        have Hns3 := Lib.hid hns3
        have Hds3 := Lib.hid hds3
        have Hpa := Lib.hid hpa
        clear HP hns3 hds3 hpa hr3 he6 hgr X5 B5 BD R5
        go_upto_region 10 with (refine wpList_store_row rfl 40 (.tmp 15) (.tmp 74) rfl w6.heap.size ds3 rfl rfl 40 noRegs B15.out (regs_size Hds3.out) Hns3.out hone3.out ?_)
        change Code.wp _ _ _ _ ((w6.alloc (.cells noRegs 40)).setRow w6.heap.size ds3)
        clear B15 Hns3 hone3
        generalize (w6.alloc (.cells noRegs 40)).setRow w6.heap.size ds3 = W3 at *
        generalize w6.heap.size = g15 at *
        have HG := Lib.hid (get_ok (k := k) R6.out)
        obtain ⟨g1, g2⟩ := get_at (rs := putF rs i false a) HN1.out
        rw [putF_at rs false a hi1] at g1 g2
        simp only [Bool.false_eq_true, if_false] at g1 g2
        obtain ⟨z1, hz1⟩ : ∃ z : Int, getE' (putF rs i false a) k = z := ⟨_, rfl⟩
        rw [hz1] at HG g2
        rw [g1] at HG
        have HZ1 := Lib.hid g2
        clear g1 g2 hz1
        go_wp2_with (refine wpList_load_row rfl 40 (.tmp 13) rfl g13 rfl 40 ds2 (0, 0) _ BD6.out Try.underlying40 rfl (regs_size Hds2.out) ?_)
        refine HG.out.mono ?_
        rintro e w7 ⟨L1, n1, d1, rfl, O1, _, he7⟩
        have I1 := Lib.hid O1.ints
        have X7 := Lib.hid he7
        clear HG O1 he7
        go_upto_region 11 with fail
        go_cut [103] (fun s103 wx => s103 = .bool false ∧ Hid (Ext W3 wx))
        case first =>
          have hl1 := I1.out.len
          have hl2 := HIa.out.len
          have HQ := Lib.hid (equal_ext I1.out (HIa.out.ext (X6.out.trans X7.out)))
          rw [eqB_true.2 rfl] at HQ
          have hnm : n ≤ 200 := by have := hal.out; omega
          by_cases h0 : n = 0
          · obtain rfl : z1 = 6 := by rw [HZ1.out, if_pos (by omega)]
            subst h0
            clear hl1 hl2
            go_wp2_with fail
            go_meet
            exact ⟨rfl, X7⟩
          · have hnp : 0 < n := by omega
            have hne : ((n : Int) == 0) = false := by simp; omega
            obtain rfl : z1 = 0 := by rw [HZ1.out, if_neg (by omega)]
            clear hl1 hl2 h0
            go_wp2_with fail
            refine HQ.out.mono ?_
            rintro e w8 ⟨rfl, he8⟩
            go_wp2_with fail
            go_meet
            exact ⟨rfl, Lib.hid (X7.out.trans he8)⟩
        case rest =>
          obtain ⟨rfl, HW⟩ := hcut
          have B8 := Lib.hid (Blk.ext B6.out HW.out)
          have BD8 := Lib.hid (Blk.ext BD6.out HW.out)
          have BE8 := Lib.hid (Blk.ext BE.out HW.out)
          have X8 := Lib.hid (X6.out.trans HW.out)
          have RC8 := Lib.hid (HR.out.ext X8.out)
          have R8 := Lib.hid (R6.out.ext HW.out)
          have RE8 := Lib.hid (R7.out.ext HW.out)
          clear B6 BD6 BE X6 R6 R7 X7 I1 HW HZ1
          have HG := Lib.hid (get_ok (k := o) RC8.out)
          go_wp2_with (refine wpList_load_row rfl 40 (.tmp 5) rfl w.heap.size rfl 40 cs (0, 0) _ B8.out Try.underlying40 rfl (regs_size hcs.out) ?_)
          refine HG.out.mono ?_
          rintro e w9 ⟨L2, n2, d2, rfl, O2, _, he9⟩
          have I2 := Lib.hid O2.ints
          have X9 := Lib.hid he9
          have HG := Lib.hid (get_ok (k := o) (R8.out.ext he9))
          have BD9 := Lib.hid (Blk.ext BD8.out he9)
          clear O2 he9
          go_wp2_with (refine wpList_load_row rfl 40 (.tmp 13) rfl g13 rfl 40 ds2 (0, 0) _ BD9.out Try.underlying40 rfl (regs_size Hds2.out) ?_)
          refine HG.out.mono ?_
          rintro e w10 ⟨L3, n3, d3, rfl, O3, _, he10⟩
          have I3 := Lib.hid O3.ints
          have I2' := Lib.hid (I2.out.ext he10)
          have X10 := Lib.hid (X9.out.trans he10)
          clear O3 he10 HG I2 X9 BD9
          obtain ⟨z2, hz2⟩ : ∃ z : Int, getE' rs o = z := ⟨_, rfl⟩
          obtain ⟨z3, hz3⟩ : ∃ z : Int, getE' (putF rs i false a) o = z := ⟨_, rfl⟩
          rw [hz2, hz3]
          have HZ2 := Lib.hid hz2
          have HZ3 := Lib.hid hz3
          clear hz2 hz3
          go_upto_region 15 with fail
          go_cut [140] (fun s140 wx => s140 = .bool false ∧ Hid (Ext wc wx))
          case first =>
            by_cases o1 : o = k
            · subst o1
              go_wp2_with fail
              go_meet
              exact ⟨rfl, X10⟩
            have o1b : (o != k) = true := by simpa using o1
            by_cases o2 : o = k - 97 + 65
            · subst o2
              go_wp2_with fail
              go_meet
              exact ⟨rfl, X10⟩
            have o2b : (o != k - 97 + 65) = true := by simpa using o2
            by_cases o3 : o = 0
            · subst o3
              go_wp2_with fail
              go_meet
              exact ⟨rfl, X10⟩
            have o3b : (o != 0) = true := by simpa using o3
            obtain ⟨g1, g2⟩ := get_other (rs := rs) (t := a) HK.out hi1 hi2 o1 o2 o3
            rw [HZ2.out, HZ3.out] at g2
            subst g2
            have HQ := Lib.hid (equal_ext I2'.out I3.out)
            rw [g1, eqB_true.2 rfl] at HQ
            clear g1 o1 o2 o3 HZ2 HZ3
            go_wp2_with fail
            refine HQ.out.mono ?_
            rintro e w11 ⟨rfl, he11⟩
            go_wp2_with fail
            go_meet
            exact ⟨rfl, Lib.hid (X10.out.trans he11)⟩
          case rest =>
            obtain ⟨rfl, HW⟩ := hcut
            have BE9 := Lib.hid (Blk.ext BE8.out HW.out)
            have X9 := Lib.hid (X8.out.trans HW.out)
            have RE9 := Lib.hid (RE8.out.ext HW.out)
            have IA9 := Lib.hid (HIa.out.ext X9.out)
            have IB9 := Lib.hid (HIb.out.ext X9.out)
            clear B8 BD8 BE8 X8 RC8 R8 RE8 HG I3 I2' X10 HZ2 HZ3 HW
            have hla := IA9.out.len
            have hlb := IB9.out.len
            have hmm := IB9.out.ncap
            have hmx := IB9.out.nmax
            have hn2 : n ≤ 200 := by have := hal.out; omega
            have hm9 : m ≤ 9223372036854775807 := by unfold maxLen at hmx; omega
            have HLA := Lib.hid hla
            have HLB := Lib.hid hlb
            rcases Hpa.out with ⟨hb, rfl, rfl⟩ | ⟨hb, rfl, rfl⟩
            · have hend := X9.out
              unfold putBig at hb
              rw [putF_at rs false a hi1] at hb
              simp only [Bool.false_eq_true, if_false, true_and] at hb
              rw [hla, hlb] at hb
              clear Hpa BE9 RE9 IA9 IB9 X9 hla hlb hmm hmx HLA HLB
              by_cases hm2 : 200 < m
              · clear hb
                go_wp2_with fail
                go_ret
                exact ⟨rfl, hend⟩
              · have hm3 : m ≤ 200 := by omega
                have hnm : 200 < n + m := by omega
                have hnm2 : (200 : Int) < (n : Int) + m := by omega
                clear hb hm2
                go_wp2_with fail
                go_ret
                exact ⟨rfl, hend⟩
            · unfold putBig at hb
              rw [putF_at rs false a hi1] at hb
              simp only [Bool.false_eq_true, if_false, true_and] at hb
              rw [hla, hlb] at hb
              have hsum : Hid (n + m ≤ 200) := Lib.hid (by omega)
              have HG := Lib.hid (get_ok (k := k) RE9.out)
              have HG0 := fun (W : World) (h : Regs W ds3 (putF (putF rs i false a) i true b)) => Lib.hid (get_ok (k := 0) h)
              obtain ⟨g1, g2⟩ := get_at (rs := putF (putF rs i false a) i true b) HN1.out
              obtain ⟨g3, g4⟩ := get_at (rs := putF (putF rs i false a) i true b) (k := 0) (i := 0) (m := false) rfl
              rw [putF_at _ true b hi1, putF_at rs false a hi1] at g1
              rw [putF_zero, putF_at rs false a hi1] at g3
              simp only [Bool.false_eq_true, if_false, if_true] at g1 g3
              rw [g1] at HG
              rw [g3] at HG0
              generalize getE' (putF (putF rs i false a) i true b) k = z5 at *
              generalize getE' (putF (putF rs i false a) i true b) 0 = z6 at *
              clear g1 g2 g3 g4 hb hla hlb hmm hmx Hpa
              go_wp2_with (refine wpList_load_row rfl 40 (.tmp 15) rfl g15 rfl 40 ds3 (0, 0) _ BE9.out Try.underlying40 rfl (regs_size Hds3.out) ?_)
              refine HG.out.mono ?_
              rintro e w12 ⟨L4, n4, d4, rfl, O4, _, he12⟩
              have I4 := Lib.hid O4.ints
              have X12 := Lib.hid (X9.out.trans he12)
              have BE12 := Lib.hid (Blk.ext BE9.out he12)
              have HG := HG0 w12 (RE9.out.ext he12)
              have IA12 := Lib.hid (IA9.out.ext he12)
              have IB12 := Lib.hid (IB9.out.ext he12)
              clear O4 he12 HG0 BE9 RE9 X9 IA9 IB9
              go_wp2_with (refine wpList_load_row rfl 40 (.tmp 15) rfl g15 rfl 40 ds3 (0, 0) _ BE12.out Try.underlying40 rfl (regs_size Hds3.out) ?_)
              refine HG.out.mono ?_
              rintro e w13 ⟨L5, n5, d5, rfl, O5, _, he13⟩
              have I5 := Lib.hid O5.ints
              have I4' := Lib.hid (I4.out.ext he13)
              have X13 := Lib.hid (X12.out.trans he13)
              have hS : Rd (w13.alloc (.cells #[.slice A n c, .slice B m d] 22)) 1 (some ⟨w13.heap.size, 0, none⟩) 2 2 [.slice A n c, .slice B m d] := Rd.lit w13 22 [.slice A n c, .slice B m d] rfl (by unfold maxLen; omega)
              have HC := Lib.hid (concat_ok hS (Lists.two ((IA12.out.ext he13).ext (Ext.alloc w13 (.cells #[.slice A n c, .slice B m d] 22))) ((IB12.out.ext he13).ext (Ext.alloc w13 (.cells #[.slice A n c, .slice B m d] 22)))) rfl (by have := hsum.out; have := HLA.out; have := HLB.out; simp; omega))
              rw [show ([a, b] : List (List Int)).flatten = a ++ b by simp] at HC
              clear O5 he13 HG I4 X12 BE12 IA12 IB12 hS
              go_wp2_with fail
              refine HC.out.mono ?_
              rintro e w14 ⟨C, nc, dc, rfl, OC, he14⟩
              have he15 := (Ext.alloc w13 (.cells #[.slice A n c, .slice B m d] 22)).trans he14
              have HQ := Lib.hid (equal_ext (I4'.out.ext he15) OC.ints)
              rw [eqB_true.2 rfl] at HQ
              have HQ2 := fun (W : World) (h : Ext w13 W) => Lib.hid (equal_ext (I5.out.ext h) (I4'.out.ext h))
              rw [eqB_true.2 rfl] at HQ2
              have X14 := Lib.hid he15
              clear OC he14 he15 HC
              go_wp2_with fail
              refine HQ.out.mono ?_
              rintro e w15 ⟨rfl, he15⟩
              have HQ := HQ2 w15 (X14.out.trans he15)
              have X15 := X13.out.trans (X14.out.trans he15)
              have HX := Lib.hid X15
              clear HQ2 X13 X14 he15 X15
              go_wp2_with fail
              refine HQ.out.mono ?_
              rintro e w16 ⟨rfl, he16⟩
              have hend := HX.out.trans he16
              clear HQ HX he16
              go_wp2_with fail
              go_ret
              exact ⟨rfl, hend⟩
    · have hk3 : k < 97 ∨ 122 < k := by omega
      have hend := X4.out
      clear hk X4 B4
      rcases hk3 with hk3 | hk3
      all_goals
        go_wp2_with fail
        go_ret
        exact ⟨rfl, hend⟩
end Go.Proofs.Ytbhbakejpgndmaa
