/-
  The walk of RegOwn.
-/
import Derived.Test.YtbhbakejpgndmaaRegG
import Derived.Test.YtbhbakejpgndmaaOwn
import Derived.Deep.DeepCutAuto
import Derived.Deep.CutRange
namespace Go.Proofs.Ytbhbakejpgndmaa
open Go.RowKit
set_option linter.unusedVariables false
set_option linter.unusedSimpArgs false

/-- What Put makes of registers, whatever is put. -/
def putR (rs : Nat → List Int) (k : Int) (text : List Int) : Nat → List Int :=
  match regNo k with
  | none => fun _ => []
  | some (i, m) => if 200 < text.length ∨ (m = true ∧ 200 < (rs i).length + text.length) then fun _ => [] else putF rs i m text
theorem noRegs_put (w' : World) (b : Nat) : PutO w' b noRegs (fun _ => []) := by
  refine ⟨noRegs_own w' b, 0, fun j k h1 h2 hk => ?_, fun _ _ => Nat.zero_le _⟩
  unfold ownB noRegs at hk
  rw [Array.getElem?_replicate, if_pos h2] at hk
  cases hk
theorem put_det {w : World} {cs : Array Value} {rs : Nat → List Int} {k : Int} {A : Option Addr} {n c : Nat} {text : List Int}
    (hr : Regs w cs rs) (ht : Ints w A n c text) (hA : A = none → c = 0) :
    Calls Try.prog 20 #[.agg cs, .int .i64 k, .slice A n c] w fun e w' => ∃ (ds : Array Value) (x : Int), e = .returned (.tuple #[.agg ds, .int .i64 x]) ∧ PutO w' w.heap.size ds (putR rs k text) ∧ Ext w w' := by
  unfold putR
  cases h : regNo k with
  | none => exact (put_key h).mono fun e w' ⟨he, hx⟩ => ⟨noRegs, 9, he, noRegs_put _ _, hx⟩
  | some p =>
    obtain ⟨i, m⟩ := p
    by_cases hb : putBig rs i m text
    · have hb' := hb
      unfold putBig at hb'
      simp only
      rw [if_pos hb']
      exact (put_large hr ht h hb).mono fun e w' ⟨he, hx⟩ => ⟨noRegs, 2, he, noRegs_put _ _, hx⟩
    · have hb' := hb
      unfold putBig at hb'
      simp only
      rw [if_neg hb']
      exact (put_ok hr ht hA h hb).mono fun e w' ⟨ds, he, hO, hx⟩ => ⟨ds, 0, he, hO, hx⟩

theorem amps_regs {w : World} {b : Nat} {a : Array Value} {rs : Nat → List Int} (hs : a.size = 27) (h : ∀ j, j < 27 → ∃ v, a[j]? = some v ∧ Amp w b v (rs j) 77) (hz : ∀ i, i < 27 → (rs i).length * 8 ≤ 140737488351232) : Regs w a rs :=
  ⟨hs, fun i hi => by
    obtain ⟨v, h1, h2⟩ := h i hi
    obtain ⟨A, n, c, rfl, h3, _⟩ := h2.ints
    refine ⟨_, h1, some A, n, c, rfl, h3, nofun, ?_⟩
    have h4 := h3.len
    have h5 := hz i hi
    omega⟩
/-- Nothing but blocks from b up to m has turned. -/
def Out (b m : Nat) (W w : World) : Prop := w.os = W.os ∧ w.tape = W.tape ∧ w.output = W.output ∧ W.heap.size ≤ w.heap.size ∧ ∀ k, k < W.heap.size → (k < b ∨ m ≤ k) → w.heap[k]? = W.heap[k]?
section
variable {b m : Nat} {W w w' : World}
theorem Out.refl (b m : Nat) (W : World) : Out b m W W := ⟨rfl, rfl, rfl, Nat.le_refl _, fun _ _ _ => rfl⟩
theorem Out.step (h : Out b m W w) {row : Option Nat} (hg : w.grownBy w' row) (hr : ∀ g, row = some g → b ≤ g ∧ g < m) : Out b m W w' := by
  obtain ⟨h1, h2, h3, h4, h5⟩ := h
  refine ⟨hg.os.trans h1, hg.tape.trans h2, hg.output.trans h3, Nat.le_trans h4 hg.size, fun k hk hk2 => (hg.block k (by omega) (fun e => ?_)).trans (h5 k hk hk2)⟩
  have := hr k e.symm
  omega
theorem Out.blk (h : Out b m W w) {g t : Nat} {cs : Array Value} (hb : Blk W g t cs) (hg : g < b ∨ m ≤ g) : Blk w g t cs := (h.2.2.2.2 g hb.lt hg).trans hb
theorem Out.own (h : Out b m W w) {base e z n c : Nat} {A : Option Addr} {xs : List Value} (ho : Own W base e z A n c xs) (hm : m ≤ base) : Own w base e z A n c xs := by
  obtain ⟨h1, h2⟩ := ho
  refine ⟨h1, ?_⟩
  rcases h2 with h2 | ⟨g', cap, cur, hv, hb, hg', r⟩
  · exact .inl h2
  · exact .inr ⟨g', cap, cur, hv, hb, (h.2.2.2.2 g' (Array.getElem?_eq_some_iff.1 hg').1 (.inr (by omega))).trans hg', r⟩
theorem Out.regsO (h : Out b m W w) {base : Nat} {ds : Array Value} {rs : Nat → List Int} (ho : RegsO W base ds rs) (hm : m ≤ base) : RegsO w base ds rs :=
  ⟨ho.1, fun i hi => by
    obtain ⟨v, h1, A, n, c, rfl, h2, h3⟩ := ho.2 i hi
    exact ⟨_, h1, A, n, c, rfl, h.own h2 hm, h3⟩⟩
theorem Out.ext (h : Out b m W w) {w0 : World} (he : Ext w0 W) (hb : w0.heap.size ≤ b) : Ext w0 w :=
  ⟨h.1.trans he.os, h.2.1.trans he.tape, h.2.2.1.trans he.output, Nat.le_trans he.size h.2.2.2.1, fun k hk => (h.2.2.2.2 k (Nat.lt_of_lt_of_le hk he.hsize) (.inl (by omega))).trans (Below.block he k hk)⟩
end
/-- Rows that still are rows. -/
def Rows' (w : World) (b : Nat) (a : Array Value) (i : Nat) : Prop := ∀ j, i ≤ j → j < 27 → ∃ A n c l, a[j]? = some (.slice A n c) ∧ OwnI w b A n c l
theorem Rows'.step {w w' : World} {b : Nat} {a : Array Value} {i : Nat} (h : Rows' w b a i) (ha : Apart a 27) (hi : i < 27) (hg : w.grownBy w' (ownB a i)) : Rows' w' b a (i + 1) := fun j h1 h2 => by
  obtain ⟨A, n, c, l, hj, ho⟩ := h j (by omega) h2
  refine ⟨A, n, c, l, hj, Own.kept ho hg ?_⟩
  cases hb : (Value.slice A n c).ownBlock with
  | none => exact .inl rfl
  | some g => exact .inr (fun e => ha j i g h2 hi (by omega) (by rw [ownB_of hj]; exact hb) e.symm)

theorem getL_len {rs : Nat → List Int} {k : Int} (h : ∀ i, i < 27 → (rs i).length * 8 ≤ 140737488351232) : (getL rs k).length * 8 ≤ 140737488351232 := by
  unfold getL
  cases hk : regNo k with
  | none => simp
  | some p => exact h p.1 (regNo_lt (m := p.2) hk)
theorem regNo_a : regNo 97 = some (1, false) := by decide
set_option maxRecDepth 100000 in
set_option maxHeartbeats 8000000 in
theorem regOwn_walk {w : World} {cs : Array Value} {rs : Nat → List Int} {k : Int} {A : Option Addr} {n c : Nat} {text : List Int}
    (hr : Regs w cs rs) (hrz : ∀ i, i < 27 → (rs i).length * 8 ≤ 140737488351232) (ht : Ints w A n c text) (hA : A = none → c = 0) (hn : n * 8 ≤ 140737488351232) :
    Calls Try.prog 5 #[.agg cs, .int .i64 k, .slice A n c] w fun e w' => e = .returned (.bool true) ∧ Ext w w' := by
  have HR := Lib.hid hr
  have HRz := Lib.hid hrz
  have HT := Lib.hid ht
  have HS := Lib.hid hr.1
  have h0 := Lib.hid (Blk.new w 40 cs)
  have hx0 := Lib.hid (Ext.alloc w (.cells cs 40))
  have hlit : Hid (Ints ((w.alloc (.cells cs 40)).alloc (.cells #[.int .i64 7] 3)) (some ⟨w.heap.size + 1, 0, none⟩) 1 1 [7]) := Lib.hid (by
    have := Blk.ints (l := [7]) (n := 1) (Blk.new (w.alloc (.cells cs 40)) 3 #[.int .i64 7]) rfl (by unfold maxLen; omega)
    rwa [World.size_alloc] at this)
  clear hr hrz ht
  go_enter Try.func5, Try.ntmps5
  go_wp2_with fail
  have HP := Lib.hid (put_ok (w := (w.alloc (.cells cs 40)).alloc (.cells #[.int .i64 7] 3)) (cs := noRegs) (rs := fun _ => []) (k := 97) (noRegs_own _ 0).regs hlit.out nofun regNo_a (by unfold putBig; decide))
  refine HP.out.mono ?_
  rintro e w1 ⟨ds, rfl, hO, he1⟩
  obtain ⟨v1, hv1, A1, n1, c1, rfl, hI1, _⟩ := hO.1.2 1 (by omega)
  obtain rfl : n1 = 1 := by have := hI1.ints.len; simpa [putF, upd] using this.symm
  have hx1 := Lib.hid ((hx0.out.to_alloc _).trans he1)
  have b1 := Lib.hid ((Blk.ext (h0.out.ext (Ext.alloc _ (.cells #[.int .i64 7] 3))) he1))
  have hds := Lib.hid hO.1.1
  have hone := Lib.hid hO.1.regs.one
  have hns : noRegs.size = ds.size := by rw [hds.out]; rfl
  have B7 := Lib.hid (Blk.new w1 40 noRegs)
  have B7' := Lib.hid (B7.out.setRow ds)
  have X2 := Lib.hid ((hx1.out.to_alloc (.cells noRegs 40)).setRow (g := w1.heap.size) hx1.out.hsize ds)
  have B0 := Lib.hid ((b1.out.ext (Ext.alloc w1 (.cells noRegs 40))).setRow_other ds (show w.heap.size ≠ w1.heap.size by have := b1.out.lt; omega))
  have Hns := Lib.hid hns
  have Hv1 := Lib.hid hv1
  clear HP hO he1 hI1 hv1 hns h0 hx0 hlit hx1 b1
  go_upto_region 2 with (refine wpList_store_row rfl 40 (.tmp 7) (.tmp 27) rfl w1.heap.size ds rfl rfl 40 noRegs B7.out (regs_size hds.out) Hns.out hone.out ?_)
  change Code.wp _ _ _ _ ((w1.alloc (.cells noRegs 40)).setRow w1.heap.size ds)
  clear B7 Hns hone
  generalize (w1.alloc (.cells noRegs 40)).setRow w1.heap.size ds = W1 at *
  generalize w1.heap.size = g7 at *
  have q1 : W1.cell? ⟨g7, 1, none⟩ = some (.slice A1 1 c1) := by rw [B7'.out.cell 1, Hv1.out]
  clear B7' hds Hv1
  have B9 := Lib.hid (Blk.new W1 40 noRegs)
  have hns : noRegs.size = cs.size := by rw [HS.out]; rfl
  have hone := Lib.hid HR.out.one
  have B9' := Lib.hid (B9.out.setRow cs)
  have B3 := Lib.hid ((B0.out.ext (Ext.alloc W1 (.cells noRegs 40))).setRow_other cs (show w.heap.size ≠ W1.heap.size by have := B0.out.lt; omega))
  have X3 := Lib.hid ((X2.out.to_alloc (.cells noRegs 40)).setRow (g := W1.heap.size) X2.out.hsize cs)
  have h39 : w.heap.size < W1.heap.size := B0.out.lt
  have hsz9 : W1.heap.size < ((W1.alloc (.cells noRegs 40)).setRow W1.heap.size cs).heap.size := by simp
  have Hns := Lib.hid hns
  clear hns
  go_upto_region 5 with (first | (refine wpList_load_row rfl 40 (.tmp 3) rfl w.heap.size rfl 40 cs (0, 0) _ B0.out Try.underlying40 rfl (regs_size HS.out) ?_) | (refine wpList_store_row rfl 40 (.tmp 9) (.tmp 37) rfl W1.heap.size cs rfl rfl 40 noRegs B9.out (regs_size HS.out) Hns.out hone.out ?_))
  change Code.wp _ _ _ _ ((W1.alloc (.cells noRegs 40)).setRow W1.heap.size cs)
  clear B9 Hns hone B0 X2 q1
  generalize (W1.alloc (.cells noRegs 40)).setRow W1.heap.size cs = W2 at *
  generalize W1.heap.size = g9 at *
  go_wp2_with fail
  go_loopw [38] (fun s38 wx => ∃ (i : Nat) (a : Array Value), i ≤ 27 ∧ s38 = .int .i64 i ∧ Hid (a.size = 27 ∧ (∀ j, j < i → ∃ v, a[j]? = some v ∧ Amp wx (g9 + 1) v (rs j) 77) ∧ (∀ j, i ≤ j → a[j]? = cs[j]?)) ∧ Hid (Blk wx g9 40 a) ∧ Hid (Blk wx w.heap.size 40 cs) ∧ Hid (Ext w wx) ∧ Hid (Apart a i) ∧ g9 < wx.heap.size) (fun s38 _ => 27 - (intOf s38).toNat)
  case atStart => exact ⟨0, cs, by omega, rfl, Lib.hid ⟨HS.out, fun j hj => by omega, fun _ _ => rfl⟩, B9', B3, X3, Lib.hid (fun j k g hj => by omega), hsz9⟩
  case round =>
    clear B9' B3 X3 hsz9
    obtain ⟨i, a, hi, rfl, Ha, Hb9, Hb3, Hx, Hap, hszr⟩ := hrel
    by_cases hlt : i < 27
    · obtain ⟨v, hv, B, q, d, rfl, hI, hB, _⟩ := HR.out.2 i hlt
      have hc : wr.cell? ⟨g9, i, none⟩ = some (.slice B q d) := by rw [Hb9.out.cell i, Ha.out.2.2 i (Nat.le_refl _), hv]
      have HC := Lib.hid (ample_ok (x := 77) (hI.ext Hx.out) (by have := HRz.out i hlt; rw [hI.len] at this; exact this))
      clear hv hI
      go_wp2_with fail
      refine HC.out.mono ?_
      rintro e w2 ⟨v2, rfl, hO, he2⟩
      have Hb9' := Lib.hid (Blk.ext Hb9.out he2)
      have Hb3' := Lib.hid (Blk.ext Hb3.out he2)
      have HX2 := Lib.hid (Hx.out.trans he2)
      have hap2 : Hid (Apart (a.setIfInBounds i v2) (i + 1)) := Lib.hid (Hap.out.snoc (m := wr.heap.size) (by rw [Ha.out.1]; exact hlt) (fun j g hj hg => by
        obtain ⟨v, h1, h2⟩ := Ha.out.2.1 j hj
        exact (h2.blk g (by unfold ownB at hg; rw [h1] at hg; exact hg)).2) (fun g hg => (hO.blk g hg).1))
      have hv2 : Hid (Amp w2 (g9 + 1) v2 (rs i) 77) := Lib.hid (hO.lower (by omega))
      have Ha2 : Hid (a.size = 27 ∧ (∀ j, j < i → ∃ v, a[j]? = some v ∧ Amp w2 (g9 + 1) v (rs j) 77) ∧ (∀ j, i ≤ j → a[j]? = cs[j]?)) := Lib.hid ⟨Ha.out.1, fun j hj => by obtain ⟨v, h1, h2⟩ := Ha.out.2.1 j hj; exact ⟨v, h1, h2.ext he2⟩, Ha.out.2.2⟩
      have hfr := Hb9'.out.frozen i
      have hc2 : w2.cell? ⟨g9, i, none⟩ = some (.slice B q d) := he2.cell hc
      have hsz2 : g9 < w2.heap.size := Hb9'.out.lt
      have hone2 : v2.oneCell' = true := by obtain ⟨_, _, _, rfl, _⟩ := hv2.out; rfl
      obtain ⟨Ao, no, co, rfl⟩ : ∃ Ao no co, v2 = .slice Ao no co := by obtain ⟨A', n', c', h, _⟩ := hv2.out; exact ⟨_, _, _, h⟩
      clear HC hO he2 hc Ha Hb9 Hb3 Hx Hap hone2
      go_wp2_with fail
      go_roundw
      case rel =>
        refine ⟨i + 1, a.setIfInBounds i (.slice Ao no co), by omega, by go_num, Lib.hid ⟨by simpa using Ha2.out.1, fun j hj => ?_, fun j hj => ?_⟩, Lib.hid (Hb9'.out.set_ i _), Lib.hid (set_other Hb3'.out (by omega) i _), Lib.hid (HX2.out.setCell (p := ⟨g9, i, none⟩) (show w.heap.size ≤ g9 by omega) _), hap2, by simpa using hsz2⟩
        · by_cases hji : j = i
          · subst hji
            exact ⟨_, by rw [Array.getElem?_setIfInBounds_self, if_pos (by rw [Ha2.out.1]; exact hlt)], hv2.out.setCell (show g9 < g9 + 1 by omega) _⟩
          · obtain ⟨v, h1, h2⟩ := Ha2.out.2.1 j (by omega)
            exact ⟨v, by rw [Array.getElem?_setIfInBounds_ne (by omega)]; exact h1, h2.setCell (show g9 < g9 + 1 by omega) _⟩
        · rw [Array.getElem?_setIfInBounds_ne (by omega)]
          exact Ha2.out.2.2 j (by omega)
      case measure => simp [intOf]; omega
    · obtain rfl : i = 27 := by omega
      have HC := Lib.hid (ample_ok (x := 77) (HT.out.ext Hx.out) hn)
      go_wp2_with fail
      refine HC.out.mono ?_
      rintro e w4 ⟨vt, rfl, hOt, he4⟩
      have hszm : wr.heap.size ≤ w4.heap.size := he4.hsize
      have Hamp : Hid (∀ j, j < 27 → ∃ v, a[j]? = some v ∧ Amp w4 (g9 + 1) v (rs j) 77 ∧ ∀ g, v.ownBlock = some g → g < wr.heap.size) := Lib.hid (fun j hj => by
        obtain ⟨v, h1, h2⟩ := Ha.out.2.1 j hj
        exact ⟨v, h1, h2.ext he4, fun g hg => (h2.blk g hg).2⟩)
      have hreg : Regs w4 a rs := amps_regs Ha.out.1 (fun j hj => by obtain ⟨v, h1, h2, _⟩ := Hamp.out j hj; exact ⟨v, h1, h2⟩) HRz.out
      obtain ⟨At, nt, ct, rfl, hIt, hnt⟩ := hOt.ints
      have HP := Lib.hid (put_det (k := k) hreg hIt nofun)
      have Hreg := Lib.hid hreg
      have HIt := Lib.hid hIt
      have HOt := Lib.hid hOt
      have B9 := Lib.hid (Blk.ext Hb9.out he4)
      have B3 := Lib.hid (Blk.ext Hb3.out he4)
      have X4 := Lib.hid (Hx.out.trans he4)
      have Has := Lib.hid Ha.out.1
      have h9m : g9 + 1 ≤ w4.heap.size := by omega
      clear HC he4 hreg hIt hOt Ha Hb9 Hb3 Hx
      generalize wr.heap.size = m0 at *
      go_wp2_with (refine wpList_load_row rfl 40 (.tmp 9) rfl g9 rfl 40 a (0, 0) _ B9.out Try.underlying40 rfl (regs_size Has.out) ?_)
      refine HP.out.mono ?_
      rintro e w5 ⟨da, xa, rfl, hPa, he5⟩
      have hda := Lib.hid hPa.1.1
      have honea := Lib.hid hPa.1.regs.one
      have hnsa := Lib.hid (show noRegs.size = da.size by rw [hda.out]; rfl)
      have B12 := Lib.hid (Blk.new w5 40 noRegs)
      have B12' := Lib.hid (B12.out.setRow da)
      have hgr : Ext w5 (w5.alloc (.cells da 40)) := Ext.alloc _ _
      have he6 := he5.trans hgr
      rw [← World.setRow_alloc_new w5 noRegs da 40] at he6 hgr
      have hm5 : w4.heap.size ≤ w5.heap.size := he5.hsize
      have HE6 := Lib.hid he6
      have HPa := Lib.hid (show PutO ((w5.alloc (.cells noRegs 40)).setRow w5.heap.size da) w4.heap.size da (putR rs k text) from ⟨hPa.1.ext hgr, hPa.2⟩)
      have Hba : Hid (∀ j g, j < 27 → ownB da j = some g → w4.heap.size ≤ g ∧ g < w5.heap.size) := Lib.hid (fun j g hj hg => by
        obtain ⟨v, h1, h2⟩ := hPa.1.2 j hj
        exact h2.blk g (by rw [ownB_of h1] at hg; exact hg))
      clear HP hPa he5 hgr he6
      go_upto_region 12 with (refine wpList_store_row rfl 40 (.tmp 12) (.tmp 55) rfl w5.heap.size da rfl rfl 40 noRegs B12.out (regs_size hda.out) hnsa.out honea.out ?_)
      change Code.wp _ _ _ _ ((w5.alloc (.cells noRegs 40)).setRow w5.heap.size da)
      clear B12 hnsa honea
      have h56 : w5.heap.size < ((w5.alloc (.cells noRegs 40)).setRow w5.heap.size da).heap.size := by simp
      generalize (w5.alloc (.cells noRegs 40)).setRow w5.heap.size da = W6 at *
      generalize w5.heap.size = g12 at *
      have HG := Lib.hid (get_ok (k := k) (Hreg.out.ext HE6.out))
      have B96 := Lib.hid (Blk.ext B9.out HE6.out)
      generalize getE' rs k = zg at *
      go_wp2_with (refine wpList_load_row rfl 40 (.tmp 9) rfl g9 rfl 40 a (0, 0) _ B96.out Try.underlying40 rfl (regs_size Has.out) ?_)
      refine HG.out.mono ?_
      rintro e w7 ⟨L, nL, dL, rfl, OL, hL0, he7⟩
      have HE7 := Lib.hid (HE6.out.trans he7)
      have HPa7 := Lib.hid (show PutO w7 w4.heap.size da (putR rs k text) from ⟨HPa.out.1.ext he7, HPa.out.2⟩)
      have B97 := Lib.hid (Blk.ext B96.out he7)
      have B127 := Lib.hid (Blk.ext B12'.out he7)
      have B37 := Lib.hid (Blk.ext (Blk.ext B3.out HE6.out) he7)
      have HOL := Lib.hid (Own.lower OL (show w4.heap.size ≤ W6.heap.size by omega))
      have HL0 := Lib.hid hL0
      have h127 : g12 < w7.heap.size := B127.out.lt
      clear HG OL hL0 HE6 HPa B96 B12' he7 B9 B3
      go_wp2_with fail
      go_loopw [63] (fun s63 wx => ∃ i : Nat, i ≤ 27 ∧ s63 = .int .i64 i ∧ Hid (Ext w7 wx)) (fun s63 _ => 27 - (intOf s63).toNat)
      case atStart => exact ⟨0, by omega, rfl, Lib.hid (Ext.refl _)⟩
      case round =>
        obtain ⟨i, hi, rfl, Hwr⟩ := hrel
        by_cases hlt : i < 27
        · obtain ⟨v, hv, ⟨Aj, nj, cj, rfl, hOj, hlj⟩, _⟩ := Hamp.out i hlt
          obtain ⟨u, hu, Bj, mj, dj, rfl, hIj, _⟩ := HR.out.2 i hlt
          have k1 : wr.cell? ⟨g9, i, none⟩ = some (.slice (some Aj) nj cj) := by rw [(Blk.ext B97.out Hwr.out).cell i, hv]
          have k2 : wr.cell? ⟨w.heap.size, i, none⟩ = some (.slice Bj mj dj) := by rw [(Blk.ext B37.out Hwr.out).cell i, hu]
          have HQ : Hid (∀ q, Calls Try.prog 23 #[.slice (some Aj) nj cj, .slice Bj mj dj, .int .i64 77] (wr.drewN q) fun e w' => e = .returned (.bool true) ∧ ∃ k, w' = (wr.drewN q).drewN k) := Lib.hid fun q =>
            stays_ok ((hOj.ints.ext (HE7.out.trans Hwr.out)).ext (Ext.drewN wr q)) hlj ((hIj.ext (X4.out.trans (HE7.out.trans Hwr.out))).ext (Ext.drewN wr q))
          clear hv hu hOj hlj hIj
          go_wp2_with fail
          go_quiet ((go_at_call 23; exact quiet_drew (HQ.out _)))
          go_wp2_with fail
          go_roundw
          case rel => exact ⟨i + 1, by omega, by go_num, Lib.hid (Hwr.out.to_drewN _)⟩
          case measure => simp [intOf]; omega
        · obtain rfl : i = 27 := by omega
          have he8 := Hwr.out
          have hz8 : w7.heap.size ≤ wr.heap.size := he8.hsize
          have HE8 := Lib.hid (HE7.out.trans he8)
          have HPa8 := Lib.hid (show PutO wr w4.heap.size da (putR rs k text) from ⟨HPa7.out.1.ext he8, HPa7.out.2⟩)
          have B98 := Lib.hid (Blk.ext B97.out he8)
          have B128 := Lib.hid (Blk.ext B127.out he8)
          have HOL8 := Lib.hid (Own.ext HOL.out he8)
          clear HE7 HPa7 B97 B127 B37 HOL he8 Hwr
          generalize wr = W8 at *
          obtain ⟨At', nt', ct', hte, hOt2, hlt2⟩ := HOt.out
          injection hte with h1 h2 h3
          injection h1 with h1
          subst h1; subst h2; subst h3
          have HQ := Lib.hid (stays_ok (hOt2.ints.ext HE8.out) hlt2 (HT.out.ext (X4.out.trans HE8.out)))
          clear hOt2 hlt2
          go_wp2_with fail
          refine HQ.out.mono ?_
          rintro e w9 ⟨rfl, q9, rfl⟩
          have he9 := Ext.drewN W8 q9
          have hz9 : w7.heap.size ≤ (W8.drewN q9).heap.size := hz8
          have HE9 := Lib.hid (HE8.out.trans he9)
          have HPa9 := Lib.hid (show PutO (W8.drewN q9) w4.heap.size da (putR rs k text) from ⟨HPa8.out.1.ext he9, HPa8.out.2⟩)
          have B99 := Lib.hid (Blk.ext B98.out he9)
          have B129 := Lib.hid (Blk.ext B128.out he9)
          have HOL9 := Lib.hid (Own.ext HOL8.out he9)
          clear HQ HE8 HPa8 B98 B128 HOL8 he9 hz8
          generalize W8.drewN q9 = W9 at *
          have HP := Lib.hid (put_det (k := k) (Hreg.out.ext HE9.out) (HIt.out.ext HE9.out) nofun)
          go_wp2_with (refine wpList_load_row rfl 40 (.tmp 9) rfl g9 rfl 40 a (0, 0) _ B99.out Try.underlying40 rfl (regs_size Has.out) ?_)
          refine HP.out.mono ?_
          rintro e w10 ⟨db, xb, rfl, hPb, he10⟩
          have hdb := Lib.hid hPb.1.1
          have honeb := Lib.hid hPb.1.regs.one
          have hnsb := Lib.hid (show noRegs.size = db.size by rw [hdb.out]; rfl)
          have B17 := Lib.hid (Blk.new w10 40 noRegs)
          have B17' := Lib.hid (B17.out.setRow db)
          have hgr : Ext w10 (w10.alloc (.cells db 40)) := Ext.alloc _ _
          have he11 := he10.trans hgr
          rw [← World.setRow_alloc_new w10 noRegs db 40] at he11 hgr
          have hm10 : w7.heap.size ≤ w10.heap.size := Nat.le_trans hz9 he10.hsize
          have HE11 := Lib.hid (HE9.out.trans he11)
          have HPb := Lib.hid (show PutO ((w10.alloc (.cells noRegs 40)).setRow w10.heap.size db) w7.heap.size db (putR rs k text) from ⟨(hPb.1.ext hgr).lower (by omega), hPb.2⟩)
          have HPa11 := Lib.hid (show PutO ((w10.alloc (.cells noRegs 40)).setRow w10.heap.size db) w4.heap.size da (putR rs k text) from ⟨HPa9.out.1.ext he11, HPa9.out.2⟩)
          have B911 := Lib.hid (Blk.ext B99.out he11)
          have B1211 := Lib.hid (Blk.ext B129.out he11)
          have HOL11 := Lib.hid (Own.ext HOL9.out he11)
          clear HP hPb he10 hgr he11 HE9 HPa9 B99 B129 HOL9
          go_upto_region 22 with (refine wpList_store_row rfl 40 (.tmp 17) (.tmp 84) rfl w10.heap.size db rfl rfl 40 noRegs B17.out (regs_size hdb.out) hnsb.out honeb.out ?_)
          change Code.wp _ _ _ _ ((w10.alloc (.cells noRegs 40)).setRow w10.heap.size db)
          clear B17 hnsb honeb
          generalize (w10.alloc (.cells noRegs 40)).setRow w10.heap.size db = W11 at *
          generalize w10.heap.size = g17 at *
          have HCL := Lib.hid (clone_ok (w := W11) (Own.rd HOL11.out) HL0.out (by have h1 := getL_len (k := k) HRz.out; have h2 := (Own.rd HOL11.out).len; rw [List.length_map] at h2; omega))
          go_wp2_with fail
          refine HCL.out.mono ?_
          rintro e w12 ⟨H, dH, rfl, hOH, _, he12⟩
          have HE12 := Lib.hid (HE11.out.trans he12)
          have HPb12 := Lib.hid (show PutO w12 w7.heap.size db (putR rs k text) from ⟨HPb.out.1.ext he12, HPb.out.2⟩)
          have HPa12 := Lib.hid (show PutO w12 w4.heap.size da (putR rs k text) from ⟨HPa11.out.1.ext he12, HPa11.out.2⟩)
          have B912 := Lib.hid (Blk.ext B911.out he12)
          have B1212 := Lib.hid (Blk.ext B1211.out he12)
          have B1712 := Lib.hid (Blk.ext B17'.out he12)
          have HOL12 := Lib.hid (Own.ext HOL11.out he12)
          have hm12 : w4.heap.size ≤ W11.heap.size := HE11.out.hsize
          have HOH := Lib.hid (Own.lower hOH hm12)
          have HT0 : Hid (∃ l, OwnI w12 m0 (some At) nt ct l) := Lib.hid (by
            obtain ⟨At', nt', ct', hte, hoo⟩ := HOt.out.own
            injection hte with h1 h2 h3
            injection h1 with h1
            subst h1; subst h2; subst h3
            exact ⟨_, Own.ext hoo HE12.out⟩)
          have HTb : Hid (m0 ≤ At.block ∧ At.block < w4.heap.size) := Lib.hid (HOt.out.blk At.block rfl)
          have HR0 : Hid (Rows' w12 (g9 + 1) a 0) := Lib.hid (fun j _ hj => by
            obtain ⟨v, hv, hA, _⟩ := Hamp.out j hj
            obtain ⟨Aj, nj, cj, rfl, hoo⟩ := hA.own
            exact ⟨some Aj, nj, cj, _, hv, Own.ext hoo HE12.out⟩)
          have Hab : Hid (∀ j g, j < 27 → ownB a j = some g → g9 + 1 ≤ g ∧ g < m0) := Lib.hid (fun j g hj hg => by
            obtain ⟨v, hv, hA, hlt⟩ := Hamp.out j hj
            rw [ownB_of hv] at hg
            exact ⟨(hA.blk g hg).1, hlt g hg⟩)
          have HO0 := Lib.hid (Out.refl (g9 + 1) w4.heap.size w12)
          clear HCL HE11 HPb HPa11 B911 B1211 B17' HOL11 hOH he12 HOt Hamp
          go_wp2_with fail
          go_loopw [88] (fun s88 wx => ∃ i : Nat, i ≤ 27 ∧ s88 = .int .i64 i ∧ Hid (Out (g9 + 1) w4.heap.size w12 wx) ∧ Hid (Rows' wx (g9 + 1) a i) ∧ Hid (∃ l, OwnI wx m0 (some At) nt ct l)) (fun s88 _ => 27 - (intOf s88).toNat)
          case atStart => exact ⟨0, by omega, rfl, HO0, HR0, HT0⟩
          case round =>
            clear HO0 HR0 HT0
            obtain ⟨i, hi, rfl, HOr, HRr, HTr⟩ := hrel
            by_cases hlt : i < 27
            · obtain ⟨Ai, ni, ci, li, hai, hoi⟩ := HRr.out i (Nat.le_refl _) hlt
              have k1 : wr.cell? ⟨g9, i, none⟩ = some (.slice Ai ni ci) := by rw [(HOr.out.blk B912.out (.inl (by omega))).cell i, hai]
              have HSP := Lib.hid (spoil_ok (x := 5) hoi)
              have hob := ownB_of hai
              clear hai hoi
              go_wp2_with fail
              refine HSP.out.mono ?_
              rintro e w' ⟨⟨v, rfl⟩, hg⟩
              rw [← hob] at hg
              have HOn := Lib.hid (HOr.out.step hg (fun g hg => by have := Hab.out i g hlt hg; omega))
              have HRn := Lib.hid (HRr.out.step Hap.out hlt hg)
              have HTn : Hid (∃ l, OwnI w' m0 (some At) nt ct l) := Lib.hid (by
                obtain ⟨l, hl⟩ := HTr.out
                refine ⟨l, Own.kept hl hg (.inr (fun e => ?_))⟩
                have h1 := Hab.out i At.block hlt e.symm
                have h2 := HTb.out.1
                omega)
              clear HSP hob hg k1 HOr HRr HTr
              go_wp2_with fail
              go_roundw
              case rel => exact ⟨i + 1, by omega, by go_num, HOn, HRn, HTn⟩
              case measure => simp [intOf]; omega
            · obtain rfl : i = 27 := by omega
              obtain ⟨lt, hlt'⟩ := HTr.out
              have HSP := Lib.hid (spoil_ok (x := 5) hlt')
              clear hlt' HRr HTr
              go_wp2_with fail
              refine HSP.out.mono ?_
              rintro e w13 ⟨⟨v, rfl⟩, hg⟩
              have HO := Lib.hid (HOr.out.step hg (fun g hg => by injection hg with hg; subst hg; have := HTb.out; omega))
              clear HSP hg HOr
              have HX := Lib.hid (HO.out.ext (X4.out.trans HE12.out) (show w.heap.size ≤ g9 + 1 by omega))
              have HPa13 := Lib.hid (show PutO w13 w4.heap.size da (putR rs k text) from ⟨HO.out.regsO HPa12.out.1 (Nat.le_refl _), HPa12.out.2⟩)
              have h47 : w4.heap.size ≤ w7.heap.size := by omega
              have HPb13 := Lib.hid (show PutO w13 w7.heap.size db (putR rs k text) from ⟨HO.out.regsO HPb12.out.1 h47, HPb12.out.2⟩)
              have B1213 := Lib.hid (HO.out.blk B1212.out (.inr hm5))
              have B1713 := Lib.hid (HO.out.blk B1712.out (.inr (by omega)))
              have HL13 := Lib.hid (Own.rd (HO.out.own HOL12.out (Nat.le_refl _)))
              have HH13 := Lib.hid (Own.rd (HO.out.own HOH.out (Nat.le_refl _)))
              have HSR := Lib.hid (sameRegs_ok HPa13.out.1.regs HPb13.out.1.regs)
              clear HPa12 HPb12 B1212 B1712 HOL12 HOH HO X4 HE12
              go_wp2_with (first | (refine wpList_load_row rfl 40 (.tmp 12) rfl g12 rfl 40 da (0, 0) _ B1213.out Try.underlying40 rfl (regs_size hda.out) ?_) | (refine wpList_load_row rfl 40 (.tmp 17) rfl g17 rfl 40 db (0, 0) _ B1713.out Try.underlying40 rfl (regs_size hdb.out) ?_))
              refine HSR.out.mono ?_
              rintro e w14 ⟨rfl, he14⟩
              have HQ := Lib.hid (equal_ext (l := getL rs k) (l' := getL rs k) (Rd.ext HL13.out he14) (Rd.ext HH13.out he14))
              rw [eqB_true.2 rfl] at HQ
              have HE14 := Lib.hid he14
              clear HSR he14
              go_wp2_with fail
              refine HQ.out.mono ?_
              rintro e w15 ⟨rfl, he15⟩
              have he16 := HE14.out.trans he15
              have HX15 := Lib.hid (HX.out.trans he16)
              have HPa15 := Lib.hid (show PutO w15 w4.heap.size da (putR rs k text) from ⟨HPa13.out.1.ext he16, HPa13.out.2⟩)
              have HPb15 := Lib.hid (show PutO w15 w7.heap.size db (putR rs k text) from ⟨HPb13.out.1.ext he16, HPb13.out.2⟩)
              have B1215 := Lib.hid (Blk.ext B1213.out he16)
              have B1715 := Lib.hid (Blk.ext B1713.out he16)
              clear HQ he15 HE14 he16 HX HPa13 HPb13 B1213 B1713 HL13 HH13
              obtain ⟨v0, hv0, A0, n0, c0, rfl, hO0, _⟩ := HPa15.out.1.2 0 (by omega)
              have k0 : w15.cell? ⟨g12, 0, none⟩ = some (.slice A0 n0 c0) := by rw [B1215.out.cell 0, hv0]
              have HSP := Lib.hid (spoil_ok (x := 9) hO0)
              have HO0 := Lib.hid hO0
              have hob := ownB_of hv0
              clear hv0 hO0
              go_wp2_with fail
              refine HSP.out.mono ?_
              rintro e w16 ⟨⟨v, rfl⟩, hg⟩
              have HX16 := Lib.hid (Ext.grown HX15.out hg HO0.out (show w.heap.size ≤ w4.heap.size by omega))
              rw [← hob] at hg
              have HD : Hid (∀ j, 1 ≤ j → j < 27 → ∃ v, da[j]? = some v ∧ RegOw w16 w4.heap.size v (putR rs k text j)) := Lib.hid (fun j h1 h2 => by
                obtain ⟨v, hv, hOj⟩ := HPa15.out.1.2 j h2
                obtain ⟨g0, hg1, hg2⟩ := HPa15.out.2
                refine ⟨v, hv, hOj.kept hg (fun g hvg e => ?_)⟩
                have h3 := hg1 j g h1 h2 (by rw [ownB_of hv]; exact hvg)
                have h4 := hg2 g e
                omega)
              have HDb : Hid (RegsO w16 w7.heap.size db (putR rs k text)) := Lib.hid ⟨HPb15.out.1.1, fun j hj => by
                obtain ⟨v, hv, hOj⟩ := HPb15.out.1.2 j hj
                refine ⟨v, hv, hOj.kept hg (fun g hvg e => ?_)⟩
                have h3 := (hOj.blk g hvg).1
                have h4 := Hba.out 0 g (by omega) e
                omega⟩
              have B1216 := Lib.hid (Blk.grown B1215.out hg (fun e => by have := Hba.out 0 g12 (by omega) e.symm; omega))
              have B1716 := Lib.hid (Blk.grown B1715.out hg (fun e => by have := Hba.out 0 g17 (by omega) e.symm; omega))
              clear HSP hob hg k0 HX15 HPa15 HPb15 B1215 B1715 HO0
              go_wp2_with fail
              go_loopw [22] (fun s22 wx => ∃ j : Nat, 1 ≤ j ∧ j ≤ 27 ∧ s22 = .int .i64 j ∧ Hid (Ext w16 wx)) (fun s22 _ => 27 - (intOf s22).toNat)
              case atStart => exact ⟨1, by omega, by omega, rfl, Lib.hid (Ext.refl _)⟩
              case round =>
                obtain ⟨j, hj1, hj, rfl, Hwr⟩ := hrel
                by_cases hlt : j < 27
                · obtain ⟨v, hv, Aj, nj, cj, rfl, hOj, _⟩ := HD.out j hj1 hlt
                  obtain ⟨u, hu, Bj, mj, dj, rfl, hOb, _⟩ := HDb.out.2 j hlt
                  have k1 : wr.cell? ⟨g12, j, none⟩ = some (.slice Aj nj cj) := by rw [(Blk.ext B1216.out Hwr.out).cell j, hv]
                  have k2 : wr.cell? ⟨g17, j, none⟩ = some (.slice Bj mj dj) := by rw [(Blk.ext B1716.out Hwr.out).cell j, hu]
                  have HQ : Hid (∀ q, Calls Try.prog 27 #[.slice Aj nj cj, .slice Bj mj dj] (wr.drewN q) fun e w' => e = .returned (.bool true) ∧ ∃ k, w' = (wr.drewN q).drewN k) := Lib.hid fun q => by
                    have h := equal_ok ((hOj.ints.ext Hwr.out).ext (Ext.drewN wr q)) ((hOb.ints.ext Hwr.out).ext (Ext.drewN wr q))
                    rwa [eqB_true.2 rfl] at h
                  clear hv hu hOj hOb
                  go_wp2_with fail
                  go_quiet ((go_at_call 27; exact quiet_drew (HQ.out _)))
                  go_wp2_with fail
                  go_roundw
                  case rel => exact ⟨j + 1, by omega, by omega, by go_num, Lib.hid (Hwr.out.to_drewN _)⟩
                  case measure => simp [intOf]; omega
                · obtain rfl : j = 27 := by omega
                  have hend := HX16.out.trans Hwr.out
                  clear Hwr
                  go_wp2_with fail
                  go_ret
                  exact ⟨rfl, hend⟩
end Go.Proofs.Ytbhbakejpgndmaa

