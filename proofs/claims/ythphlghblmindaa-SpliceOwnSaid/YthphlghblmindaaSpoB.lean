/-
  The walk of SpliceOwn.
-/
import Derived.Test.YthphlghblmindaaSpoA
import Derived.Test.YthphlghblmindaaConc
namespace Go.Proofs.Ythphlghblmindaa
open Go.RowKit
set_option linter.unusedVariables false
set_option linter.unusedSimpArgs false

/-- Splices of which the first i have their texts in ample rows. -/
def AmpEd (w wr : World) (b : Nat) (xs : List Value) (e : List Spl) (i : Nat) : Prop := xs.length = e.length * 3 ∧ ∀ j, j < e.length → ∃ v, xs[j * 3]? = some (.int .i64 (gE e j).f) ∧ xs[j * 3 + 1]? = some (.int .i64 (gE e j).t) ∧ xs[j * 3 + 2]? = some v ∧
  ((j < i ∧ Amp wr b v (gE e j).x 77) ∨ (i ≤ j ∧ ∃ B m d, v = .slice B m d ∧ Ints w B m d (gE e j).x))
section
variable {w wr wr' : World} {b i : Nat} {xs : List Value} {e : List Spl}
theorem AmpEd.start (h : Edits w xs e) : AmpEd w wr b xs e 0 := ⟨h.1, fun j hj => let ⟨B, m, d, h1, h2, h3, h4, _⟩ := h.2 j hj; ⟨_, h1, h2, h3, .inr ⟨by omega, B, m, d, rfl, h4⟩⟩⟩
theorem AmpEd.ext (h : AmpEd w wr b xs e i) (he : Ext wr wr') : AmpEd w wr' b xs e i := ⟨h.1, fun j hj => let ⟨v, h1, h2, h3, h4⟩ := h.2 j hj; ⟨v, h1, h2, h3, h4.imp (fun k => ⟨k.1, k.2.ext he⟩) id⟩⟩
theorem AmpEd.setCell (h : AmpEd w wr b xs e i) {p : Addr} (hp : p.block < b) (u : Value) : AmpEd w (wr.setCell p u) b xs e i := ⟨h.1, fun j hj => let ⟨v, h1, h2, h3, h4⟩ := h.2 j hj; ⟨v, h1, h2, h3, h4.imp (fun k => ⟨k.1, k.2.setCell hp u⟩) id⟩⟩
theorem AmpEd.step (h : AmpEd w wr b xs e i) (hi : i < e.length) {v : Value} (hv : Amp wr b v (gE e i).x 77) : AmpEd w wr b (xs.set (i * 3 + 2) v) e (i + 1) := by
  refine ⟨by simpa using h.1, fun j hj => ?_⟩
  obtain ⟨u, h1, h2, h3, h4⟩ := h.2 j hj
  have hl := h.1
  by_cases hji : j = i
  · subst hji
    refine ⟨v, ?_, ?_, ?_, .inl ⟨by omega, hv⟩⟩
    · rw [List.getElem?_set_ne (by omega)]; exact h1
    · rw [List.getElem?_set_ne (by omega)]; exact h2
    · rw [List.getElem?_set_self (by omega)]
  · refine ⟨u, ?_, ?_, ?_, ?_⟩
    · rw [List.getElem?_set_ne (by omega)]; exact h1
    · rw [List.getElem?_set_ne (by omega)]; exact h2
    · rw [List.getElem?_set_ne (by omega)]; exact h3
    · rcases h4 with ⟨h5, h6⟩ | ⟨h5, h6⟩
      · exact .inl ⟨by omega, h6⟩
      · exact .inr ⟨by omega, h6⟩
theorem AmpEd.edits (h : AmpEd w wr b xs e i) (hi : e.length ≤ i) : Edits wr xs e := ⟨h.1, fun j hj => by
  obtain ⟨v, h1, h2, h3, h4⟩ := h.2 j hj
  rcases h4 with ⟨_, h5⟩ | ⟨h5, _⟩
  · obtain ⟨A, n, c, rfl, h6, _⟩ := h5.ints
    exact ⟨some A, n, c, h1, h2, h3, h6, nofun⟩
  · omega⟩
theorem AmpEd.text (h : AmpEd w wr b xs e i) {j : Nat} (hj : j < e.length) (hi : i ≤ j) : ∃ B m d, xs[j * 3 + 2]? = some (.slice B m d) ∧ Ints w B m d (gE e j).x := by
  obtain ⟨v, _, _, h3, h4⟩ := h.2 j hj
  rcases h4 with ⟨h5, _⟩ | ⟨_, B, m, d, rfl, h5⟩
  · omega
  · exact ⟨B, m, d, h3, h5⟩
theorem AmpEd.amp (h : AmpEd w wr b xs e i) {j : Nat} (hj : j < e.length) (hi : j < i) : ∃ v, xs[j * 3 + 2]? = some v ∧ Amp wr b v (gE e j).x 77 := by
  obtain ⟨v, _, _, h3, h4⟩ := h.2 j hj
  rcases h4 with ⟨_, h5⟩ | ⟨h5, _⟩
  · exact ⟨v, h3, h5⟩
  · omega
end
theorem Amp.setNe {w : World} {b : Nat} {v : Value} {l : List Int} {x : Int} (h : Amp w b v l x) {p : Addr} (hne : ∀ g, v.ownBlock = some g → g ≠ p.block) (u : Value) : Amp (w.setCell p u) b v l x := by
  obtain ⟨A, n, c, rfl, h1, h2⟩ := h
  refine ⟨A, n, c, rfl, Own.kept h1 (grownBy_set w p u) ?_, h2⟩
  cases hq : (Value.slice (some A) (n + 2) c).ownBlock with
  | none => exact .inl rfl
  | some q => exact .inr (fun e => hne q hq (by injection e))
theorem own_head {w : World} {base e' z n c : Nat} {A : Option Addr} {xs : List Value} (h : Own w base e' z A n c xs) (hn : 0 < n) : ∃ g, A = some ⟨g, 0, none⟩ := by
  rcases h.2 with ⟨_, h0⟩ | ⟨g, cap, cur, hv, _⟩
  · omega
  · injection hv with hA
    exact ⟨g, hA⟩
theorem chars12 : btw [1] [2] 0 0 := ⟨by decide, rfl, rfl, fun _ => by decide, fun _ => by decide⟩

set_option maxRecDepth 100000 in
set_option maxHeartbeats 16000000 in
theorem spliceOwn_walk {l m : List Int} {e f : List Spl} {A B E F : Option Addr} {n c q d k ce r cf : Nat} {w : World} (hl : Ints w A n c l) (hm : Ints w B q d m) (he0 : EditAt w E k ce e) (hE : E = none → ce = 0) (hf : EditAt w F r cf f)
    (zl : n * 8 ≤ 140737488351232) (zm : q * 8 ≤ 140737488351232) (ze : k * 40 ≤ 140737488351232) (zx : ∀ i, i < k → (gE e i).x.length * 8 ≤ 140737488351232) :
    Calls Try.prog 5 #[.slice A n c, .slice B q d, .slice E k ce, .slice F r cf] w fun e' w' => e' = .returned (.bool true) ∧ Ext w w' := by
  have hlm := Nat.le_trans hl.ncap hl.nmax
  have HLM := Lib.hid hlm
  have hke := he0.len
  have HKE := Lib.hid hke
  have hnc := hl.ncap
  have hcm := hl.nmax
  have hkc := he0.ncap
  have hcem := he0.nmax
  unfold maxLen at hcm hcem
  obtain ⟨xs0, hr0, hx0⟩ := he0
  have HL := Lib.hid hl
  have HM := Lib.hid hm
  have HR := Lib.hid hr0
  have HE := Lib.hid hx0
  have HF := Lib.hid hf
  have HEN := Lib.hid hE
  have ZX := Lib.hid zx
  clear hl hm hr0 hx0 hf hE zx hlm hke
  go_enter Try.func5, Try.ntmps5
  have HX1 := Lib.hid ((Ext.alloc w (.cells #[.int .i64 1] 3)).to_alloc (.cells #[.int .i64 2] 3))
  have HI1 := Lib.hid ((Ints.litAt w 3 [1] rfl rfl (Nat.le_of_ble_eq_true rfl)).ext (Ext.alloc _ (.cells #[.int .i64 2] 3)))
  have HI2 : Hid (Ints ((w.alloc (.cells #[.int .i64 1] 3)).alloc (.cells #[.int .i64 2] 3)) (some ⟨w.heap.size + 1, 0, none⟩) 1 1 [2]) := Lib.hid (Ints.litAt (w.alloc (.cells #[.int .i64 1] 3)) 3 [2] (by simp) rfl (Nat.le_of_ble_eq_true rfl))
  have HB1 := Lib.hid (between_own HI1.out HI2.out nofun (by decide) (by decide))
  go_wp2_with fail
  refine HB1.out.mono ?_
  rintro e' w1 ⟨⟨k1, j1, hb1, hb2⟩, he1⟩
  obtain ⟨rfl, rfl⟩ := btw_uniq hb1 chars12
  rcases hb2 with ⟨h1, _⟩ | ⟨_, g1, rfl, _⟩
  · omega
  have HXa := Lib.hid (HX1.out.trans he1)
  clear HX1 HI1 HI2 HB1 he1 hb1
  have HA1 := Lib.hid (ample_ok (x := 77) (HL.out.ext HXa.out) zl)
  go_wp2_with fail
  refine HA1.out.mono ?_
  rintro e' w2 ⟨vx, rfl, hax, he2⟩
  have HA2 := Lib.hid (ample_ok (x := 77) (HM.out.ext (HXa.out.trans he2)) zm)
  have HXb := Lib.hid (HXa.out.trans he2)
  have HX12 : Hid (w1.heap.size ≤ w2.heap.size) := Lib.hid he2.hsize
  have HAX := Lib.hid hax
  clear HA1 hax he2
  go_wp2_with fail
  refine HA2.out.mono ?_
  rintro e' w3 ⟨vy, rfl, hay, he3⟩
  have HAX3 := Lib.hid (HAX.out.ext he3)
  have HAY3 := Lib.hid hay
  have HXc := Lib.hid (HXb.out.trans he3)
  have HCL := Lib.hid (cloneE_ok (HR.out.ext HXc.out) (HE.out.ext HXc.out) HEN.out (by omega))
  clear HA2 hay he3 HAX HXb
  go_wp2_with fail
  refine HCL.out.mono ?_
  rintro e' w4 ⟨O, dO, rfl, hO, he4⟩
  have HXd := Lib.hid (HXc.out.trans he4)
  have HAX4 := Lib.hid (HAX3.out.ext he4)
  have HAY4 := Lib.hid (HAY3.out.ext he4)
  have HO := Lib.hid hO
  have HOB : Hid (∀ g, (Value.slice O k dO).ownBlock = some g → w.heap.size ≤ g ∧ g < w4.heap.size) := Lib.hid fun g hg => ⟨Nat.le_trans (HXc.out.hsize) (Own.blk hO g hg).1, (Own.blk hO g hg).2⟩
  have HAE : Hid (AmpEd w w4 w4.heap.size xs0 e 0) := Lib.hid (AmpEd.start HE.out)
  have HVX : Hid ((∀ g, vx.ownBlock = some g → g < w3.heap.size) ∧ ∀ g, vy.ownBlock = some g → g < w3.heap.size) := Lib.hid ⟨fun g hg => (HAX3.out.blk g hg).2, fun g hg => (HAY3.out.blk g hg).2⟩
  have HSV : Hid (w3.heap.size ≤ w4.heap.size ∧ w.heap.size ≤ w3.heap.size) := Lib.hid ⟨he4.hsize, HXc.out.hsize⟩
  have hdO := Lib.hid (Own.rd hO).nmax
  have hkO := (Own.rd hO).ncap
  clear HCL hO he4 HAX3 HAY3
  -- the texts are laid amply
  go_upto_block 0 with fail
  go_cut [] (fun wx => ∃ xs, Hid (Own wx w3.heap.size 45 3 O k dO xs) ∧ Hid (AmpEd w wx w4.heap.size xs e k) ∧ Hid (Ext w wx) ∧ Hid (Amp wx w1.heap.size vx l 77) ∧ Hid (Amp wx w2.heap.size vy m 77) ∧ Hid (w4.heap.size ≤ wx.heap.size))
  case first =>
    go_wp2_with fail
    go_loopw [53] (fun s wx => ∃ (i : Nat) (xs : List Value), i ≤ k ∧ s = .int .i64 i ∧ Hid (Own wx w3.heap.size 45 3 O k dO xs) ∧ Hid (AmpEd w wx w4.heap.size xs e i) ∧ Hid (Ext w wx) ∧ Hid (Amp wx w1.heap.size vx l 77) ∧ Hid (Amp wx w2.heap.size vy m 77) ∧ Hid (w4.heap.size ≤ wx.heap.size)) (fun s _ => k - (intOf s).toNat)
    case atStart => exact ⟨0, xs0, by omega, rfl, HO, HAE, HXd, HAX4, HAY4, Lib.hid (Nat.le_refl _)⟩
    case round =>
      clear HO HAE HXd HAX4 HAY4
      obtain ⟨i, xs, hik, rfl, HO, HAE, HXd, HAX, HAY, HSZ⟩ := hrel
      by_cases hlt : i < k
      · obtain ⟨g, rfl⟩ := own_head HO.out (by omega)
        have hgb := HOB.out g rfl
        have hg3 : w3.heap.size ≤ g := (Own.blk HO.out g rfl).1
        obtain ⟨Bt, mt, dt, hx2, hIt⟩ := HAE.out.text (j := i) (by rw [HKE.out]; exact hlt) (Nat.le_refl _)
        have hc2 := World.ownsRow.cellAt HO.out (i * 3 + 2) (by omega)
        rw [hx2] at hc2
        have HZ : Hid (mt * 8 ≤ 140737488351232) := Lib.hid (by have := ZX.out i hlt; rw [hIt.len] at this; exact this)
        have HAM := Lib.hid (ample_ok (x := 77) (hIt.ext HXd.out) HZ.out)
        clear hx2 hIt
        go_wp2_with fail
        refine HAM.out.mono ?_
        rintro e' w5 ⟨v, rfl, hav, he5⟩
        have hO5 := Own.ext HO.out he5
        have hc5 := World.ownsRow.cellAt hO5 (i * 3 + 2) (by omega)
        rw [← World.ownsRow.cellAt HO.out (i * 3 + 2) (by omega)] at hc5
        rw [hc2] at hc5
        have hf5 := World.ownsRow.frozenAt hO5 (i * 3 + 2)
        have HO6 := Lib.hid (World.ownsRow.stored hO5 (i * 3 + 2) v).1
        have hwz := HSZ.out
        have HAE6 := Lib.hid (((HAE.out.ext he5).step (by rw [HKE.out]; exact hlt) (hav.lower HSZ.out)).setCell (p := ⟨g, i * 3 + 2, none⟩) hgb.2 v)
        have HXd6 := Lib.hid ((HXd.out.trans he5).setCell (p := ⟨g, i * 3 + 2, none⟩) hgb.1 v)
        have HAX6 := Lib.hid ((HAX.out.ext he5).setNe (p := ⟨g, i * 3 + 2, none⟩) (fun q hq => by have := HVX.out.1 q hq; simp only; omega) v)
        have HAY6 := Lib.hid ((HAY.out.ext he5).setNe (p := ⟨g, i * 3 + 2, none⟩) (fun q hq => by have := HVX.out.2 q hq; simp only; omega) v)
        have HSZ6 : Hid (w4.heap.size ≤ (w5.setCell ⟨g, i * 3 + 2, none⟩ v).heap.size) := Lib.hid (by have := he5.hsize; simp; omega)
        have hv1 : ∃ A n c, v = .slice (some A) n c := by obtain ⟨A, n, c, e1, _⟩ := hav; exact ⟨A, n, c, e1⟩
        obtain ⟨Av, nv, cv, rfl⟩ := hv1
        clear HO HAE HXd HAX HAY HAM hO5 hav he5 hc2
        go_wp2_with fail
        go_roundw
        case rel => exact ⟨i + 1, _, by omega, by go_num, HO6, HAE6, HXd6, HAX6, HAY6, HSZ6⟩
        case measure => simp [intOf]; omega
      · obtain rfl : i = k := by omega
        go_wp2_with fail
        go_meet
        exact ⟨xs, HO, HAE, HXd, HAX, HAY, HSZ⟩
  case rest =>
    obtain ⟨xs, HO, HAE, HXs, HAX, HAY, HSZ⟩ := hcut
    rename World => ws
    have HVB : Hid ((∀ g, vx.ownBlock = some g → g < ws.heap.size) ∧ (∀ g, vy.ownBlock = some g → g < ws.heap.size)) := Lib.hid ⟨fun g hg => (HAX.out.blk g hg).2, fun g hg => (HAY.out.blk g hg).2⟩
    have HEA := Lib.hid (show EditAt ws O k dO e from ⟨xs, Own.rd HO.out, HAE.out.edits (by rw [HKE.out]; exact Nat.le_refl _)⟩)
    have HRX := Lib.hid (HAX.out.rowB.wide (show w.heap.size ≤ w1.heap.size from HXa.out.hsize) (Nat.le_refl _))
    have HRY := Lib.hid (HAY.out.rowB.wide (show w.heap.size ≤ w2.heap.size from Nat.le_trans HXa.out.hsize HX12.out) (Nat.le_refl _))
    have HRT : Hid (∀ j, j < k → ∃ v, xs[j * 3 + 2]? = some v ∧ RowB ws v w.heap.size ws.heap.size) := Lib.hid fun j hj => by
      obtain ⟨v, h1, h2⟩ := HAE.out.amp (j := j) (by rw [HKE.out]; exact hj) hj
      exact ⟨v, h1, h2.rowB.wide (Nat.le_trans HSV.out.2 HSV.out.1) (Nat.le_refl _)⟩
    obtain ⟨Ax, nx, cx, rfl, hox, hlx⟩ := HAX.out
    obtain ⟨Ay, ny, cy, rfl, hoy, hly⟩ := HAY.out
    have hnx : nx = n := by rw [← hlx]; exact HL.out.len
    have hny : ny = q := by rw [← hly]; exact HM.out.len
    subst hnx; subst hny
    have hix : Ints ws (some Ax) nx cx l := by
      have h3 := hox.ints.front (k := nx) (by omega)
      rwa [List.take_append_of_le_length (by omega), List.take_of_length_le (by omega)] at h3
    have hiy : Ints ws (some Ay) ny cy m := by
      have h3 := hoy.ints.front (k := ny) (by omega)
      rwa [List.take_append_of_le_length (by omega), List.take_of_length_le (by omega)] at h3
    have HIX := Lib.hid hix
    have HIY := Lib.hid hiy
    have HPX := Lib.hid hox.ints
    have HPY := Lib.hid hoy.ints
    have HLX := Lib.hid hlx
    have HLY := Lib.hid hly
    clear hix hiy hox hoy hlx hly HAX HAY HXd HAX4 HAY4
    -- the four
    have HC1 := Lib.hid (apply_any HIX.out HEA.out)
    go_wp2_with fail
    refine HC1.out.mono ?_
    rintro e' w6 ⟨B6, q6, r6, z6, o6, rfl, ho6, hq6, hx6⟩
    have HC2 := Lib.hid (undo_any (HIX.out.ext hx6) nofun (HEA.out.ext hx6))
    have HO6 := Lib.hid ho6
    have HX6 := Lib.hid hx6
    clear HC1 ho6 hx6
    go_wp2_with fail
    refine HC2.out.mono ?_
    rintro e' w7 ⟨B7, q7, r7, z7, rfl, ho7, hx7⟩
    have HX7 := Lib.hid (HX6.out.trans hx7)
    have HO67 := Lib.hid (HO6.out.ext hx7)
    have HO7 := Lib.hid (ho7.lower HX6.out.hsize)
    have HC3 := Lib.hid (between_any (HIX.out.ext HX7.out) (HIY.out.ext HX7.out) nofun)
    clear HC2 ho7 hx7 HO6 HX6
    go_wp2_with fail
    refine HC3.out.mono ?_
    rintro e' w8 ⟨B8, q8, r8, z8, eb, rfl, ho8, hb8, hx8⟩
    have HX8 := Lib.hid (HX7.out.trans hx8)
    have HO68 := Lib.hid (HO67.out.ext hx8)
    have HO78 := Lib.hid (HO7.out.ext hx8)
    have HO8 := Lib.hid (ho8.lower HX7.out.hsize)
    have HB8 := Lib.hid hb8
    have HC4 := Lib.hid (over_any (N := nx) (ahead := true) (HEA.out.ext HX8.out) (HF.out.ext (HXs.out.trans HX8.out)) HLM.out)
    clear HC3 ho8 hb8 hx8 HO67 HO7 HX7
    go_wp2_with fail
    refine HC4.out.mono ?_
    rintro e' w9 ⟨B9, q9, r9, z9, rfl, ho9, hx9⟩
    have HX9 := Lib.hid (HX8.out.trans hx9)
    have HO69 := Lib.hid (HO68.out.ext hx9)
    have HO79 := Lib.hid (HO78.out.ext hx9)
    have HO89 := Lib.hid (HO8.out.ext hx9)
    have HO9 := Lib.hid (ho9.lower HX8.out.hsize)
    clear HC4 ho9 hx9 HO68 HO78 HO8 HX8
    -- what stays
    have HS1 := Lib.hid (stays_ok (HPX.out.ext HX9.out) HLX.out (HL.out.ext (HXs.out.trans HX9.out)))
    go_wp2_with fail
    refine HS1.out.mono ?_
    rintro e' w10 ⟨rfl, z1, rfl⟩
    have HS2 := Lib.hid (stays_ok ((HPY.out.ext HX9.out).ext (Ext.drewN _ z1)) HLY.out ((HM.out.ext (HXs.out.trans HX9.out)).ext (Ext.drewN _ z1)))
    clear HS1
    go_wp2_with fail
    refine HS2.out.mono ?_
    rintro e' w11 ⟨rfl, z2, rfl⟩
    clear HS2
    have HEW := Lib.hid (show EditAt w E k ce e from ⟨xs0, HR.out, HE.out⟩)
    go_wp2_with fail
    go_loopw [105] (fun s wx => ∃ i : Nat, i ≤ k ∧ s = .int .i64 i ∧ Hid (Ext w9 wx)) (fun s _ => k - (intOf s).toNat)
    case atStart => exact ⟨0, by omega, rfl, Lib.hid (by first | exact Ext.drewN w9 (z1 + z2) | exact (Ext.drewN w9 z1).trans (Ext.drewN _ z2))⟩
    case round =>
      obtain ⟨i, hik, rfl, HW9⟩ := hrel
      have hXz : Ext ws wr := HX9.out.trans HW9.out
      by_cases hlt : i < k
      · obtain ⟨g, rfl⟩ := own_head HO.out (by omega)
        obtain ⟨v, hv2, hva⟩ := HAE.out.amp (j := i) (by rw [HKE.out]; exact hlt) hlt
        obtain ⟨Av, nv, cv, rfl, hov, hlv⟩ := hva
        have hc2 := hXz.cell (World.ownsRow.cellAt HO.out (i * 3 + 2) (by omega) |>.trans hv2)
        obtain ⟨ad, Bt, mt, dt, rfl, _, _, j2, hIt, _⟩ := HEW.out.at_ hlt
        have j2' := (HXs.out.trans hXz).cell j2
        have HQ : Hid (∀ y, Calls Try.prog 23 #[.slice (some Av) nv cv, .slice Bt mt dt, .int .i64 77] (wr.drewN y) fun e w' => e = .returned (.bool true) ∧ ∃ y', w' = (wr.drewN y).drewN y') := Lib.hid fun y => stays_ok ((hov.ints.ext hXz).ext (Ext.drewN _ y)) hlv ((hIt.ext (HXs.out.trans hXz)).ext (Ext.drewN _ y))
        clear hv2 hov hlv j2 hIt hXz
        go_wp2_with fail
        go_quiet ((go_at_call 23; exact quiet_drew (HQ.out _)))
        go_wp2_with fail
        go_roundw
        case rel => exact ⟨i + 1, by omega, by go_num, Lib.hid (HW9.out.to_drewN nq)⟩
        case measure => simp [intOf]; omega
      · obtain rfl : i = k := by omega
        have HO6z := Lib.hid (HO69.out.ext HW9.out)
        have HO7z := Lib.hid (HO79.out.ext HW9.out)
        have HO8z := Lib.hid (HO89.out.ext HW9.out)
        have HO9z := Lib.hid (HO9.out.ext HW9.out)
        have HXz := Lib.hid hXz
        clear hXz HX9 HO69 HO79 HO89 HO9 HPX HPY HEW HW9
        rename World => wa
        -- again
        have HCL := Lib.hid (clone_ok HO6z.out.ints (Own.cap HO6z.out) (by omega))
        go_wp2_with fail
        refine HCL.out.mono ?_
        rintro e' wb ⟨Bl, dl, rfl, hol, _, hxb⟩
        have HXB := Lib.hid (HXz.out.trans hxb)
        have HU := Lib.hid (undo_any (HIX.out.ext HXB.out) nofun (HEA.out.ext HXB.out))
        have HOL := Lib.hid (Own.lower hol HXz.out.hsize)
        have HO6b := Lib.hid (HO6z.out.ext hxb)
        have HO7b := Lib.hid (HO7z.out.ext hxb)
        have HO8b := Lib.hid (HO8z.out.ext hxb)
        have HO9b := Lib.hid (HO9z.out.ext hxb)
        clear HCL hol hxb HXz HO6z HO7z HO8z HO9z
        go_wp2_with fail
        refine HU.out.mono ?_
        rintro e' wc ⟨Bu, qu, ru, zu, rfl, hou, hxc⟩
        have HXC := Lib.hid (HXB.out.trans hxc)
        have HOU := Lib.hid (hou.lower HXB.out.hsize)
        have HOLc := Lib.hid (OwnI.ext HOL.out hxc)
        have HO6c := Lib.hid (HO6b.out.ext hxc)
        have HO7c := Lib.hid (HO7b.out.ext hxc)
        have HO8c := Lib.hid (HO8b.out.ext hxc)
        have HO9c := Lib.hid (HO9b.out.ext hxc)
        have HBT := Lib.hid (between_any (HIX.out.ext HXC.out) (HIY.out.ext HXC.out) nofun)
        clear HU hou hxc HXB HOL HO6b HO7b HO8b HO9b
        go_wp2_with fail
        refine HBT.out.mono ?_
        rintro e' wd ⟨Bq, qq, rq, zq, eq, rfl, hoq, hbq, hxd⟩
        obtain rfl := hbq.uniq HB8.out
        have HXD := Lib.hid (HXC.out.trans hxd)
        have HOQ := Lib.hid (hoq.lower HXC.out.hsize)
        have HOUd := Lib.hid (HOU.out.ext hxd)
        have HOLd := Lib.hid (OwnI.ext HOLc.out hxd)
        have HO6d := Lib.hid (HO6c.out.ext hxd)
        have HO7d := Lib.hid (HO7c.out.ext hxd)
        have HO8d := Lib.hid (HO8c.out.ext hxd)
        have HO9d := Lib.hid (HO9c.out.ext hxd)
        have HOV := Lib.hid (over_any (N := nx) (ahead := true) (HEA.out.ext HXD.out) (HF.out.ext (HXs.out.trans HXD.out)) HLM.out)
        clear HBT hoq hbq hxd HXC HOU HOLc HO6c HO7c HO8c HO9c
        go_wp2_with fail
        refine HOV.out.mono ?_
        rintro e' we ⟨Br, qr, rr, zr, rfl, hor, hxe⟩
        have HXE := Lib.hid (HXD.out.trans hxe)
        have HOR := Lib.hid (hor.lower HXD.out.hsize)
        have HOQe := Lib.hid (HOQ.out.ext hxe)
        have HOUe := Lib.hid (HOUd.out.ext hxe)
        have HOLe := Lib.hid (OwnI.ext HOLd.out hxe)
        have HO6e := Lib.hid (HO6d.out.ext hxe)
        have HO7e := Lib.hid (HO7d.out.ext hxe)
        have HO8e := Lib.hid (HO8d.out.ext hxe)
        have HO9e := Lib.hid (HO9d.out.ext hxe)
        have HXw := Lib.hid (HXs.out.trans HXE.out)
        have HROW := Lib.hid (Own.ext HO.out HXE.out)
        have HRX1 := Lib.hid (HRX.out.ext HXE.out)
        have HRY1 := Lib.hid (HRY.out.ext HXE.out)
        have HRT1 : Hid (∀ j, j < i → ∃ v, xs[j * 3 + 2]? = some v ∧ RowB we v w.heap.size ws.heap.size) := Lib.hid fun j hj => let ⟨v, h1, h2⟩ := HRT.out j hj; ⟨v, h1, h2.ext HXE.out⟩
        clear HOV hor hxe HXD HOQ HOUd HOLd HO6d HO7d HO8d HO9d HRX HRY HRT HO
        -- spoilt
        have HSP1 := Lib.hid (spoil_row (x := 5) HRX1.out)
        go_wp2_with fail
        refine HSP1.out.mono ?_
        rintro e' wf ⟨⟨u1, rfl⟩, gx, hgx, hgr1, ⟨csx, hbx⟩, hk1⟩
        have HG1 := Lib.hid ((GrowLow.refl ws.heap.size we).step hgr1 hgx.2)
        have HW1 := Lib.hid (ext_spoilt HXw.out hgr1 hgx.1)
        have HROW1 := Lib.hid (Own.kept HROW.out hgr1 (own_ne_int HROW.out hbx))
        have HRY2 := Lib.hid (hk1 _ _ _ HRY1.out)
        have HRT2 : Hid (∀ j, j < i → ∃ v, xs[j * 3 + 2]? = some v ∧ RowB wf v w.heap.size ws.heap.size) := Lib.hid fun j hj => let ⟨v, h1, h2⟩ := HRT1.out j hj; ⟨v, h1, hk1 _ _ _ h2⟩
        clear HSP1 hgx hgr1 hbx hk1 HRX1 HRY1 HRT1 HXw HROW
        have HSP2 := Lib.hid (spoil_row (x := 5) HRY2.out)
        go_wp2_with fail
        refine HSP2.out.mono ?_
        rintro e' wg ⟨⟨u2, rfl⟩, gy, hgy, hgr2, ⟨csy, hby⟩, hk2⟩
        have HG2 := Lib.hid (HG1.out.step hgr2 hgy.2)
        have HW2 := Lib.hid (ext_spoilt HW1.out hgr2 hgy.1)
        have HROW2 := Lib.hid (Own.kept HROW1.out hgr2 (own_ne_int HROW1.out hby))
        have HRT3 : Hid (∀ j, j < i → ∃ v, xs[j * 3 + 2]? = some v ∧ RowB wg v w.heap.size ws.heap.size) := Lib.hid fun j hj => let ⟨v, h1, h2⟩ := HRT2.out j hj; ⟨v, h1, hk2 _ _ _ h2⟩
        clear HSP2 hgy hgr2 hby hk2 HRY2 HRT2 HG1 HW1 HROW1
        go_wp2_with fail
        go_loopw [149] (fun s wx => ∃ j : Nat, j ≤ i ∧ s = .int .i64 j ∧ Hid (Own wx w3.heap.size 45 3 O i dO xs) ∧ Hid (∀ j, j < i → ∃ v, xs[j * 3 + 2]? = some v ∧ RowB wx v w.heap.size ws.heap.size) ∧ Hid (GrowLow ws.heap.size we wx) ∧ Hid (Ext w wx)) (fun s _ => i - (intOf s).toNat)
        case atStart => exact ⟨0, by omega, rfl, HROW2, HRT3, HG2, HW2⟩
        case round =>
          clear HROW2 HRT3 HG2 HW2
          obtain ⟨j, hji, rfl, HRW, HRT, HG, HW⟩ := hrel
          by_cases hlt : j < i
          · obtain ⟨g, rfl⟩ := own_head HRW.out (by omega)
            obtain ⟨v, hv2, hvb⟩ := HRT.out j hlt
            have hc2 := (World.ownsRow.cellAt HRW.out (j * 3 + 2) (by omega)).trans hv2
            have hvs : ∃ A n c, v = .slice A n c := by obtain ⟨g', n', c', _, e1, _⟩ := hvb; exact ⟨_, n', c', e1⟩
            obtain ⟨Av, nv, cv, rfl⟩ := hvs
            have HSP := Lib.hid (spoil_row (x := 5) hvb)
            clear hv2 hvb
            go_wp2_with fail
            refine HSP.out.mono ?_
            rintro e' wh ⟨⟨u3, rfl⟩, gz, hgz, hgr3, ⟨csz, hbz⟩, hk3⟩
            have HG3 := Lib.hid (HG.out.step hgr3 hgz.2)
            have HW3 := Lib.hid (ext_spoilt HW.out hgr3 hgz.1)
            have HRW3 := Lib.hid (Own.kept HRW.out hgr3 (own_ne_int HRW.out hbz))
            have HRT4 : Hid (∀ j, j < i → ∃ v, xs[j * 3 + 2]? = some v ∧ RowB wh v w.heap.size ws.heap.size) := Lib.hid fun j hj => let ⟨v, h1, h2⟩ := HRT.out j hj; ⟨v, h1, hk3 _ _ _ h2⟩
            clear HSP hgz hgr3 hbz hk3 hc2 HG HW HRW HRT
            go_wp2_with fail
            go_roundw
            case rel => exact ⟨j + 1, by omega, by go_num, HRW3, HRT4, HG3, HW3⟩
            case measure => simp [intOf]; omega
          · obtain rfl : j = i := by omega
            rename World => wz
            have F6 := Lib.hid (HG.out.ownI HO6e.out (Nat.le_refl _))
            have FL := Lib.hid (HG.out.ownI HOLe.out (Nat.le_refl _))
            have F7 := Lib.hid (HG.out.edOwn HO7e.out (Nat.le_refl _))
            have F8 := Lib.hid (HG.out.edOwn HO8e.out (Nat.le_refl _))
            have F9 := Lib.hid (HG.out.edOwn HO9e.out (Nat.le_refl _))
            have FU := Lib.hid (HG.out.edOwn HOUe.out (Nat.le_refl _))
            have FQ := Lib.hid (HG.out.edOwn HOQe.out (Nat.le_refl _))
            have FR := Lib.hid (HG.out.edOwn HOR.out (Nat.le_refl _))
            have HEQ := Lib.hid (equal_same F6.out.ints FL.out.ints)
            clear HRW HRT HG
            go_wp2_with fail
            refine HEQ.out.mono ?_
            rintro e' x1 ⟨rfl, hx1⟩
            have HS1 := Lib.hid (sameEd (F7.out.ext hx1) (FU.out.ext hx1))
            have HX1 := Lib.hid hx1
            clear HEQ hx1
            go_wp2_with fail
            refine HS1.out.mono ?_
            rintro e' x2 ⟨rfl, hx2⟩
            have HX2 := Lib.hid (HX1.out.trans hx2)
            have HS2 := Lib.hid (sameEd (F8.out.ext HX2.out) (FQ.out.ext HX2.out))
            clear HS1 hx2 HX1
            go_wp2_with fail
            refine HS2.out.mono ?_
            rintro e' x3 ⟨rfl, hx3⟩
            have HX3 := Lib.hid (HX2.out.trans hx3)
            have HS3 := Lib.hid (sameEd (F9.out.ext HX3.out) (FR.out.ext HX3.out))
            clear HS2 hx3 HX2
            go_wp2_with fail
            refine HS3.out.mono ?_
            rintro e' x4 ⟨rfl, hx4⟩
            go_wp2_with fail
            go_ret
            exact ⟨rfl, HW.out.trans (HX3.out.trans hx4)⟩
end Go.Proofs.Ythphlghblmindaa
