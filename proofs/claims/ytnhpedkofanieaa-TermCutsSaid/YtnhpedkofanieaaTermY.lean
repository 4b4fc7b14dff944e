/-
  Cuts in what a terminal is shown: the walk.
-/
import Derived.Test.YtnhpedkofanieaaTermX
import Derived.Test.YtnhpedkofanieaaEq
import Derived.Test.YtnhpedkofanieaaConcB
namespace Go.Proofs.Ytnhpedkofanieaa
open Go.RowKit
set_option linter.unusedVariables false
set_option linter.unusedSimpArgs false

set_option maxHeartbeats 2000000 in
theorem row_made (s : ByteArray) (a : Int) (w : World) (hs : s.size ≤ 65536) :
    Calls Try.prog 13 #[.string s, .int .i64 a] w fun e w' => (∃ B d, e = .returned (.agg #[.slice B s.size d, .int .i64 a]) ∧ OwnI w' w.heap.size B s.size d (chars s)) ∧ Ext w w' := by
  have HO := Lib.hid (of_ok s (w.alloc (.cells #[.slice none 0 0, .int .i64 0] 27)) hs)
  go_enter Try.func13, Try.ntmps13
  go_wp2_with fail
  refine HO.out.mono ?_
  rintro e w1 ⟨A1, c1, rfl, ho1, he1⟩
  have hb := (Blk.new w 27 #[.slice none 0 0, .int .i64 0]).ext he1
  have k0 := hb.cell 0
  have k1 := hb.cell 1
  have f0 := hb.frozen 0
  have f1 := hb.frozen 1
  simp only [List.getElem?_toArray, List.getElem?_cons_zero, List.getElem?_cons_succ] at k0 k1
  have HE : Hid (Ext w w1) := Lib.hid ((Ext.alloc _ _).trans he1)
  have HQ := Lib.hid ho1
  clear hb he1 ho1 HO
  go_wp2_with fail
  refine bodyPost_ret (by simp [results, Try.results13, go_sem, k0, k1]; try rfl) rfl ?_
  refine ⟨⟨A1, c1, rfl, ?_⟩, (HE.out.setCell (Nat.le_refl _) _).setCell (Nat.le_refl _) _⟩
  exact Own.lower (Own.setCell (Own.setCell HQ.out (by simp) _) (by simp) _) (by simp)

set_option maxHeartbeats 2000000 in
theorem sameRow_ok {A B : Option Addr} {n c m d : Nat} {l : List Int} {a : Int} {w : World} (h1 : Ints w A n c l) (h2 : Ints w B m d l) :
    Calls Try.prog 14 #[.agg #[.slice A n c, .int .i64 a], .agg #[.slice B m d, .int .i64 a]] w fun e w' => e = .returned (.bool true) ∧ Ext w w' := by
  have hx0 : Ext w ((w.alloc (.cells #[.slice A n c, .int .i64 a] 27)).alloc (.cells #[.slice B m d, .int .i64 a] 27)) := (Ext.alloc _ _).to_alloc _
  have HE := Lib.hid (equal_ext (h1.ext hx0) (h2.ext hx0))
  have HX := Lib.hid hx0
  clear h1 h2 hx0
  go_enter Try.func14, Try.ntmps14
  go_wp2_with fail
  refine HE.out.mono ?_
  rintro e w1 ⟨rfl, he⟩
  have HE2 := Lib.hid (HX.out.trans he)
  have hq : eqB l l = true := by simp [eqB]
  rw [hq]
  clear HE HX he hq
  go_wp2_with fail
  go_ret
  exact ⟨rfl, HE2.out⟩

theorem own_cap {w : World} {base n c : Nat} {A : Option Addr} {l : List Int} (h : OwnI w base A n c l) : A = none → c = 0 := by
  have hh : Own w base 3 1 A n c (l.map (Value.int .i64)) := h
  obtain ⟨h1, h2⟩ := hh
  rcases h2 with h2 | ⟨g, cap, cur, hv, hb, hg, r⟩
  · have := h2.1
    cases this
    intro _; rfl
  · cases hv
    intro hh; cases hh
theorem lit_good : ∀ k, k < 3 → goodC (gI (chars ⟨#[97, 98, 99]⟩) k) := by
  intro k hk
  have : k = 0 ∨ k = 1 ∨ k = 2 := by omega
  rcases this with rfl | rfl | rfl <;> exact ⟨by decide, by decide⟩
theorem newAtT {w : World} {g t : Nat} {cs : Array Value} (h : g = w.heap.size) : Blk (w.alloc (.cells cs t)) g t cs := by subst h; exact Blk.new _ _ _
theorem fin13 {wd : World} {g base s n d : Nat} {a : Int} {l : List Int} (hb : Blk wd g 27 #[.slice none 0 0, .int .i64 0]) (ho : OwnI wd base (some ⟨s, 0, none⟩) n d l) (hg : g < base) :
    Blk ((wd.setCell ⟨g, 0, none⟩ (.slice (some ⟨s, 0, none⟩) n d)).setCell ⟨g, 1, none⟩ (.int .i64 a)) g 27 #[.slice (some ⟨s, 0, none⟩) n d, .int .i64 a] ∧
    Ints ((wd.setCell ⟨g, 0, none⟩ (.slice (some ⟨s, 0, none⟩) n d)).setCell ⟨g, 1, none⟩ (.int .i64 a)) (some ⟨s, 0, none⟩) n d l :=
  ⟨by simpa using (hb.set_ 0 (.slice (some ⟨s, 0, none⟩) n d)).set_ 1 (.int .i64 a), OwnI.ints (Own.setCell (Own.setCell ho (by simpa using hg) _) (by simpa using hg) _)⟩

theorem tc_lit : showR (chars ⟨#[97, 98, 99]⟩, 3) [8, 120, 13, 121] = (chars ⟨#[121, 98, 120]⟩, 1) := by decide +kernel

set_option maxRecDepth 100000 in
set_option maxHeartbeats 8000000 in
theorem termCuts_walk {l s t : List Int} {A B D : Option Addr} {n m q c d f : Nat} {a : Int} {w : World} (hl : Ints w A n c l) (hA : A = none → c = 0) (hs : Ints w B m d s) (ht : Ints w D q f t) (hB : B = none → d = 0) (hD : D = none → f = 0) (zs : m * 8 ≤ 140737488351232) (zt : q * 8 ≤ 140737488351232) :
    Calls Try.prog 4 #[.agg #[.slice A n c, .int .i64 a], .slice B m d, .slice D q f] w fun e w' => e = .returned (.bool true) ∧ Ext w w' := by
  have hsl := Lib.hid hs.len
  have htl := Lib.hid ht.len
  have hlen := Lib.hid hl.len
  have ZS := Lib.hid zs
  have ZT := Lib.hid zt
  have HL := Lib.hid hl
  have HS := Lib.hid hs
  have HT := Lib.hid ht
  have HB := Lib.hid hB
  have HD := Lib.hid hD
  have HAA := Lib.hid hA
  have hx0 := Ext.alloc w (.cells #[.slice A n c, .int .i64 a] 27)
  have hb3 := Blk.new w 27 #[.slice A n c, .int .i64 a]
  have hmd := hs.ncap
  have hdm := hs.nmax
  have hqf := ht.ncap
  have hfm := ht.nmax
  unfold maxLen at hdm hfm
  clear hl hs ht hA hB hD zs zt
  go_enter Try.func4, Try.ntmps4
  go_wp2_with fail
  refine (row_made _ _ _ (by decide)).mono ?_
  rintro e w1 ⟨⟨A1, c1, rfl, ho1⟩, he1⟩
  have hx1 := hx0.trans he1
  have hb31 := hb3.ext he1
  go_wp2_with fail
  refine (show_ok (a := 3) (ho1.ints.ext (Ext.alloc _ _)) (own_cap ho1) (Ints.litAt w1 _ [8, 120, 13, 121] rfl rfl (by decide)) ⟨by decide, by decide, by decide, by decide, lit_good⟩).mono ?_
  rintro e w2 ⟨⟨s2, d2, rfl, ho2⟩, he2⟩
  rw [tc_lit] at ho2 ⊢
  have hx2 := hx1.trans ((Ext.alloc _ _).trans he2)
  have hb32 := (hb31.ext (Ext.alloc _ (.cells #[.int .i64 8, .int .i64 120, .int .i64 13, .int .i64 121] 3))).ext he2
  clear hx0 hb3 hx1 hb31 ho1 he1 he2
  have hx3 := hx2.trans (Ext.alloc w2 (.cells #[.slice (some ⟨s2, 0, none⟩) 3 d2, .int .i64 1] 27))
  have hb33 := hb32.ext (Ext.alloc w2 (.cells #[.slice (some ⟨s2, 0, none⟩) 3 d2, .int .i64 1] 27))
  have hb73 := Blk.new w2 27 #[.slice (some ⟨s2, 0, none⟩) 3 d2, .int .i64 1]
  have HI3 : Hid (Ints (w2.alloc (.cells #[.slice (some ⟨s2, 0, none⟩) 3 d2, .int .i64 1] 27)) (some ⟨s2, 0, none⟩) 3 d2 (chars ⟨#[121, 98, 120]⟩)) := Lib.hid (ho2.ints.ext (Ext.alloc _ _))
  clear ho2 hx2 hb32
  have hg7 := hb73.lt
  go_wp2_with fail
  revert hx3 hb33 hb73 HI3 hg7
  generalize w2.alloc (.cells #[.slice (some ⟨s2, 0, none⟩) 3 d2, .int .i64 1] 27) = w3
  generalize w2.heap.size = p7
  intro hx3 hb33 hb73 HI3 hg7
  have q0 := hb73.cell 0
  have q1 := hb73.cell 1
  simp only [List.getElem?_toArray, List.getElem?_cons_zero, List.getElem?_cons_succ] at q0 q1
  have hxd := Ext.drew w3
  go_region_held3 (fun w' => w'.cell? ⟨p7, 0, none⟩ = some (.slice (some ⟨s2, 0, none⟩) 3 d2) ∧ w'.cell? ⟨p7, 1, none⟩ = some (.int .i64 1) ∧ Ext w3 w') (first
    | assumption
    | exact ⟨q0, q1, hxd⟩
    | (show LowT w3 p7 (.slice (some ⟨s2, 0, none⟩) 3 d2) (.int .i64 1) _
       ((repeat (first | refine LowT.alloc ?_ _ | refine LowT.set ?_ hg7 ?_ _ | refine LowT.drew ?_)) <;> first | assumption | exact ⟨q0, q1, hxd⟩ | exact ⟨q0, q1, Ext.refl _⟩ | ((try simp only [World.size_alloc, drewT_size]); omega)))
    | (show LowT w3 p7 (.slice (some ⟨s2, 0, none⟩) 3 d2) (.int .i64 1) _
       (refine LowT.call (wr := w3) (g := p7) (x := .slice (some ⟨s2, 0, none⟩) 3 d2) (y := .int .i64 1) ?_ (by assumption)); assumption)) (first
    | (go_at_call 13
       refine (row_made _ _ _ (by decide)).mono ?_
       rintro e wa ⟨⟨B1, e1, rfl, hoa⟩, hea⟩
       have hSA := LowT.call (wr := w3) (g := p7) (x := .slice (some ⟨s2, 0, none⟩) 3 d2) (y := .int .i64 1) (by assumption) hea)
    | (go_at_call 14
       refine (sameRow_ok (l := chars ⟨#[121, 98, 120]⟩) (HI3.out.ext hSA.ext) hoa.ints).mono ?_
       rintro e wb ⟨rfl, heb⟩
       have hSB := LowT.call (wr := w3) (g := p7) (x := .slice (some ⟨s2, 0, none⟩) 3 d2) (y := .int .i64 1) (by assumption) heb))
  have hx4 : Ext w wb := hx3.trans hSB.ext
  have hb34 := hb33.ext hSB.ext
  have k0 := hb34.cell 0
  have k1 := hb34.cell 1
  simp only [List.getElem?_toArray, List.getElem?_cons_zero, List.getElem?_cons_succ] at k0 k1
  clear hx3 hb33 hb73 HI3 hg7 q0 q1 hxd hea hoa hSA heb hSB
  by_cases hg : rowOk l n a
  · obtain ⟨a0, rfl⟩ : ∃ a0 : Nat, a = a0 := ⟨a.toNat, by have := hg.2.2.1; omega⟩
    have HG := Lib.hid hg
    have GR : Hid (goodR (l, a0)) := Lib.hid ⟨by rw [hlen.out]; exact hg.1, by rw [hlen.out]; exact hg.2.1, by rw [hlen.out]; have := hg.2.2.2.1; simpa using this, by rw [hlen.out]; exact hg.2.2.2.2⟩
    have hn1 := hg.1
    have hn2 := hg.2.1
    have HSH := Lib.hid (show_ok (HL.out.ext hx4) HAA.out (HS.out.ext hx4) HG.out)
    clear hg
    go_wp2_with fail
    refine HSH.out.mono ?_
    rintro e w5 ⟨⟨s9, d9, rfl, ho9⟩, he5⟩
    have hx5 := hx4.trans he5
    have hb35 := hb34.ext he5
    clear HSH k0 k1 hx4 he5 hb34
    have G1 := Lib.hid (show_good (s := s) GR.out)
    have L1 : Hid ((showR (l, a0) s).1.length = n) := Lib.hid ((show_len GR.out).trans hlen.out)
    have G2 := Lib.hid (show_good (s := t) G1.out)
    have L2 : Hid ((showR (showR (l, a0) s) t).1.length = n) := Lib.hid ((show_len G1.out).trans L1.out)
    have HAPP : Hid (showR (l, a0) (s ++ t) = showR (showR (l, a0) s) t) := Lib.hid (show_app _ _ _)
    obtain ⟨r1, hr1⟩ : ∃ r1, r1 = showR (l, a0) s := ⟨_, rfl⟩
    obtain ⟨r2, hr2⟩ : ∃ r2, r2 = showR r1 t := ⟨_, rfl⟩
    rw [← hr1] at G2 L2 HAPP G1 L1 ho9
    rw [← hr2] at G2 L2 HAPP
    obtain ⟨l1, a1⟩ := r1
    obtain ⟨l2, a2⟩ := r2
    have HA1 : Hid ((showR (l, a0) s).2 = a1) := Lib.hid (by rw [← hr1])
    have HE2 : Hid (showR (l1, a1) t = (l2, a2)) := Lib.hid hr2.symm
    rw [HA1.out]
    clear hr1 hr2
    have R1 : Hid (rowOk l1 n a1) := Lib.hid ⟨hn1, hn2, by omega, by have := G1.out.2.2.1; rw [L1.out] at this; simp only at this; omega, by have := G1.out.2.2.2; rw [L1.out] at this; exact this⟩
    have R2 : Hid (rowOk l2 n a2) := Lib.hid ⟨hn1, hn2, by omega, by have := G2.out.2.2.1; rw [L2.out] at this; simp only at this; omega, by have := G2.out.2.2.2; rw [L2.out] at this; exact this⟩
    have hx6 := hx5.trans (Ext.alloc w5 (.cells #[.slice (some ⟨s9, 0, none⟩) n d9, .int .i64 a1] 27))
    have hb36 := hb35.ext (Ext.alloc w5 (.cells #[.slice (some ⟨s9, 0, none⟩) n d9, .int .i64 a1] 27))
    have HSH := Lib.hid (show_ok (ho9.ints.ext (Ext.alloc w5 (.cells #[.slice (some ⟨s9, 0, none⟩) n d9, .int .i64 a1] 27))) (by intro h; cases h) (HT.out.ext hx6) R1.out)
    rw [HE2.out] at HSH
    clear ho9 hx5 hb35
    go_wp2_with fail
    refine HSH.out.mono ?_
    rintro e w7 ⟨⟨s11, d11, rfl, ho11⟩, he7⟩
    have hx8 := hx6.trans (he7.trans (Ext.alloc w7 (.cells #[.slice (some ⟨s11, 0, none⟩) n d11, .int .i64 a2] 27)))
    have hb38 := (hb36.ext he7).ext (Ext.alloc w7 (.cells #[.slice (some ⟨s11, 0, none⟩) n d11, .int .i64 a2] 27))
    have hb18 := Blk.new w7 27 #[.slice (some ⟨s11, 0, none⟩) n d11, .int .i64 a2]
    have HI8 := Lib.hid (ho11.ints.ext (Ext.alloc w7 (.cells #[.slice (some ⟨s11, 0, none⟩) n d11, .int .i64 a2] 27)))
    clear HSH ho11 he7 hx6 hb36
    go_wp2_with fail
    revert hx8 hb38 hb18 HI8
    generalize w7.alloc (.cells #[.slice (some ⟨s11, 0, none⟩) n d11, .int .i64 a2] 27) = w8
    generalize w7.heap.size = p11
    intro hx8 hb38 hb18 HI8
    have q0 := hb38.cell 0
    have q1 := hb38.cell 1
    simp only [List.getElem?_toArray, List.getElem?_cons_zero, List.getElem?_cons_succ] at q0 q1
    have hg3 : w.heap.size < w8.heap.size := hb38.lt
    have hg11 := hb18.lt
    have hxd := Ext.drew w8
    have HCO : Hid (∀ (wq : World) (S : Option Addr), Ext w8 wq → Rd wq 1 S 2 2 [.slice B m d, .slice D q f] → Calls Try.prog 15 #[.slice S 2 2] wq fun e w' => ∃ B n c, e = .returned (.slice B n c) ∧ OwnI w' wq.heap.size B n c (s ++ t) ∧ Ext wq w') := Lib.hid (fun wq S he hr => by
      have := concat_big hr (ListsN.two (HS.out.ext (hx8.trans he)) HB.out (HT.out.ext (hx8.trans he)) HD.out) rfl (by simp; rw [hsl.out, htl.out]; have := ZS.out; have := ZT.out; omega)
      rw [show ([s, t] : List (List Int)).flatten = s ++ t by simp] at this
      exact this)
    have HSHO : Hid (∀ (wq : World) (C : Option Addr) (nc dc : Nat), Ext w8 wq → Ints wq C nc dc (s ++ t) → Calls Try.prog 12 #[.agg #[.slice A n c, .int .i64 a0], .slice C nc dc] wq fun e w' => (∃ s d', e = .returned (.tuple #[.agg #[.slice (some ⟨s, 0, none⟩) n d', .int .i64 a2], .int .i64 0]) ∧ OwnI w' wq.heap.size (some ⟨s, 0, none⟩) n d' l2) ∧ Ext wq w') := Lib.hid (fun wq C nc dc he hi => by
      have := show_ok (HL.out.ext (hx8.trans he)) HAA.out hi HG.out
      rw [HAPP.out] at this
      exact this)
    clear HL HS HT HB HD HAA HAPP HE2 HA1 R1 GR G1 L1 ZS ZT hsl htl hlen
    go_region_held3 (fun w' => w'.cell? ⟨w.heap.size, 0, none⟩ = some (.slice A n c) ∧ w'.cell? ⟨w.heap.size, 1, none⟩ = some (.int .i64 a0) ∧ Ext w8 w') (first
      | assumption
      | exact ⟨q0, q1, hxd⟩
      | (show LowT w8 w.heap.size (.slice A n c) (.int .i64 a0) _
         ((repeat (first | refine LowT.alloc ?_ _ | refine LowT.set ?_ hg3 ?_ _ | refine LowT.drew ?_)) <;> first | assumption | exact ⟨q0, q1, hxd⟩ | exact ⟨q0, q1, Ext.refl _⟩ | ((try simp only [World.size_alloc, drewT_size]); omega)))
      | (show LowT w8 w.heap.size (.slice A n c) (.int .i64 a0) _
         (refine LowT.call (wr := w8) (g := w.heap.size) (x := .slice A n c) (y := .int .i64 a0) ?_ (by assumption)); assumption)) (first
      | (go_at_call 15
         refine (HCO.out _ _ (by first | exact LowT.ext (wr := w8) (g := w.heap.size) (x := .slice A n c) (y := .int .i64 a0) (by assumption) | exact (Ext.alloc _ _).to_drew | exact ((Ext.alloc _ _).to_alloc _).to_drew | exact hxd) (by first | exact Rd.ext (Rd.litAt _ _ [.slice B m d, .slice D q f] (by first | rfl | simp) rfl (Nat.le_of_ble_eq_true rfl)) (Ext.drew _) | exact Rd.ext (Rd.ext (Rd.litAt _ _ [.slice B m d, .slice D q f] (by first | rfl | simp) rfl (Nat.le_of_ble_eq_true rfl)) (Ext.alloc _ _)) (Ext.drew _) | exact (Rd.litAt _ _ [.slice B m d, .slice D q f] (by first | rfl | simp) rfl (Nat.le_of_ble_eq_true rfl)) | exact Rd.ext (Rd.litAt _ _ [.slice B m d, .slice D q f] (by first | rfl | simp) rfl (Nat.le_of_ble_eq_true rfl)) (Ext.alloc _ _))).mono ?_
         rintro e wc ⟨C, nc, dc, rfl, hoc, hec⟩
         have hSC := LowT.call (wr := w8) (g := w.heap.size) (x := .slice A n c) (y := .int .i64 a0) (by assumption) hec
         obtain ⟨hcC, hfC, hzC⟩ := ext_rulesT hec
         try simp only [World.size_alloc, drewT_size] at hzC
         try (have qc : w8.heap.size < wc.heap.size := (by omega); have qca : ¬ w8.heap.size = wc.heap.size := (by omega); have qcb : ¬ wc.heap.size = w8.heap.size := (by omega); have qcc : ¬ w8.heap.size = wc.heap.size + 1 := (by omega))
         try (have qd : w8.heap.size + 1 < wc.heap.size := (by omega); have qda : ¬ w8.heap.size + 1 = wc.heap.size := (by omega); have qdb : ¬ wc.heap.size = w8.heap.size + 1 := (by omega)))
      | (go_at_call 12
         refine (HSHO.out _ _ _ _ (by first | exact LowT.ext (wr := w8) (g := w.heap.size) (x := .slice A n c) (y := .int .i64 a0) (by assumption)) (by first | exact hoc.ints | exact hoc.ints.ext (Ext.alloc _ _) | exact hoc.ints.ext (Ext.drew _))).mono ?_
         rintro e wd ⟨⟨s13, d13, rfl, ho13⟩, hed⟩
         have hSD := LowT.call (wr := w8) (g := w.heap.size) (x := .slice A n c) (y := .int .i64 a0) (by assumption) hed
         obtain ⟨hcD, hfD, hzD⟩ := ext_rulesT hed
         try simp only [World.size_alloc, drewT_size] at hzD
         try (have qe : w8.heap.size < wd.heap.size := (by omega); have qea : ¬ w8.heap.size = wd.heap.size := (by omega); have qeb : ¬ wd.heap.size = w8.heap.size := (by omega))
         try (have qf : w8.heap.size + 1 < wd.heap.size := (by omega); have qfa : ¬ w8.heap.size + 1 = wd.heap.size := (by omega); have qfb : ¬ wd.heap.size = w8.heap.size + 1 := (by omega))
         try (have qg : wc.heap.size < wd.heap.size := (by omega); have qga : ¬ wc.heap.size = wd.heap.size := (by omega); have qgb : ¬ wd.heap.size = wc.heap.size := (by omega))))
    · have hfin : Blk (wd.alloc (.cells #[.slice (some ⟨s13, 0, none⟩) n d13, .int .i64 a2] 27)) wd.heap.size 27 #[.slice (some ⟨s13, 0, none⟩) n d13, .int .i64 a2] ∧ Ints (wd.alloc (.cells #[.slice (some ⟨s13, 0, none⟩) n d13, .int .i64 a2] 27)) (some ⟨s13, 0, none⟩) n d13 l2 := ⟨Blk.new _ _ _, ho13.ints.ext (Ext.alloc _ _)⟩
      have hxF : Ext w8 _ := And.right (And.right (by assumption : _ ∧ _ ∧ Ext w8 (wd.alloc (.cells #[.slice (some ⟨s13, 0, none⟩) n d13, .int .i64 a2] 27))))
      obtain ⟨hb13, hI13⟩ := hfin
      clear hcC hfC hzC hec hoc hSC hed hcD hfD hzD ho13 hSD
      revert hxF hb13 hI13
      generalize (wd.alloc (.cells #[.slice (some ⟨s13, 0, none⟩) n d13, .int .i64 a2] 27)) = wf
      generalize wd.heap.size = g13
      intro hxF hb13 hI13
      have hbF1 := hb18.ext hxF
      have hbF3 := hb38.ext hxF
      have HIF := Lib.hid (HI8.out.ext hxF)
      have HI := Lib.hid hI13
      have HX := Lib.hid (hx8.trans hxF)
      have u0 := hbF1.cell 0
      have u1 := hbF1.cell 1
      have v0 := hbF3.cell 0
      have x0 := hb13.cell 0
      have x1 := hb13.cell 1
      simp only [List.getElem?_toArray, List.getElem?_cons_zero, List.getElem?_cons_succ] at u0 u1 v0 x0 x1
      have hHz : True := trivial
      clear hb18 hb38 HI8 hx8 q0 q1 hxF hI13 hxd
      go_wp2_with fail
      refine (sameRow_ok HIF.out HI.out).mono ?_
      rintro e w14 ⟨rfl, he14⟩
      have u0 := he14.cell u0
      have v0 := he14.cell v0
      have x0 := he14.cell x0
      have x1 := he14.cell x1
      go_wp2_with fail
      refine (check_ok (HI.out.ext he14) R2.out.2.2.2.2 hn1 hn2 R2.out.2.2.1 R2.out.2.2.2.1).mono ?_
      rintro e w15 ⟨rfl, he15⟩
      have HZ := Lib.hid (HX.out.trans (he14.trans he15))
      have nn : ((n : Int) == n) = true := by simp
      go_wp2_with fail
      go_ret
      exact ⟨rfl, HZ.out⟩
    · have hfin := fin13 (a := a2) (Blk.ext (Blk.new wc 27 #[.slice none 0 0, .int .i64 0]) hed) ho13 (by simp only [World.size_alloc]; omega)
      have hxF : Ext w8 _ := And.right (And.right (by assumption : _ ∧ _ ∧ Ext w8 ((wd.setCell ⟨wc.heap.size, 0, none⟩ (.slice (some ⟨s13, 0, none⟩) n d13)).setCell ⟨wc.heap.size, 1, none⟩ (.int .i64 a2))))
      obtain ⟨hb13, hI13⟩ := hfin
      clear hcC hfC hzC hec hoc hSC hed hcD hfD hzD ho13 hSD
      revert hxF hb13 hI13
      generalize ((wd.setCell ⟨wc.heap.size, 0, none⟩ (.slice (some ⟨s13, 0, none⟩) n d13)).setCell ⟨wc.heap.size, 1, none⟩ (.int .i64 a2)) = wf
      generalize wc.heap.size = g13
      intro hxF hb13 hI13
      have hbF1 := hb18.ext hxF
      have hbF3 := hb38.ext hxF
      have HIF := Lib.hid (HI8.out.ext hxF)
      have HI := Lib.hid hI13
      have HX := Lib.hid (hx8.trans hxF)
      have u0 := hbF1.cell 0
      have u1 := hbF1.cell 1
      have v0 := hbF3.cell 0
      have x0 := hb13.cell 0
      have x1 := hb13.cell 1
      simp only [List.getElem?_toArray, List.getElem?_cons_zero, List.getElem?_cons_succ] at u0 u1 v0 x0 x1
      have hHz : True := trivial
      clear hb18 hb38 HI8 hx8 q0 q1 hxF hI13 hxd
      go_wp2_with fail
      refine (sameRow_ok HIF.out HI.out).mono ?_
      rintro e w14 ⟨rfl, he14⟩
      have u0 := he14.cell u0
      have v0 := he14.cell v0
      have x0 := he14.cell x0
      have x1 := he14.cell x1
      go_wp2_with fail
      refine (check_ok (HI.out.ext he14) R2.out.2.2.2.2 hn1 hn2 R2.out.2.2.1 R2.out.2.2.2.1).mono ?_
      rintro e w15 ⟨rfl, he15⟩
      have HZ := Lib.hid (HX.out.trans (he14.trans he15))
      have nn : ((n : Int) == n) = true := by simp
      go_wp2_with fail
      go_ret
      exact ⟨rfl, HZ.out⟩
    · have hfin := fin13 (a := a2) (Blk.ext (Blk.ext (newAtT (w := w8.alloc (.cells #[.slice B m d, .slice D q f] 22)) (g := w8.heap.size + 1) (t := 27) (cs := #[.slice none 0 0, .int .i64 0]) (by simp)) ((Ext.drew _).trans hec)) hed) ho13 (by omega)
      have hxF : Ext w8 _ := And.right (And.right (by assumption : _ ∧ _ ∧ Ext w8 ((wd.setCell ⟨w8.heap.size + 1, 0, none⟩ (.slice (some ⟨s13, 0, none⟩) n d13)).setCell ⟨w8.heap.size + 1, 1, none⟩ (.int .i64 a2))))
      obtain ⟨hb13, hI13⟩ := hfin
      clear hcC hfC hzC hec hoc hSC hed hcD hfD hzD ho13 hSD
      revert hxF hb13 hI13
      generalize ((wd.setCell ⟨w8.heap.size + 1, 0, none⟩ (.slice (some ⟨s13, 0, none⟩) n d13)).setCell ⟨w8.heap.size + 1, 1, none⟩ (.int .i64 a2)) = wf
      generalize w8.heap.size + 1 = g13
      intro hxF hb13 hI13
      have hbF1 := hb18.ext hxF
      have hbF3 := hb38.ext hxF
      have HIF := Lib.hid (HI8.out.ext hxF)
      have HI := Lib.hid hI13
      have HX := Lib.hid (hx8.trans hxF)
      have u0 := hbF1.cell 0
      have u1 := hbF1.cell 1
      have v0 := hbF3.cell 0
      have x0 := hb13.cell 0
      have x1 := hb13.cell 1
      simp only [List.getElem?_toArray, List.getElem?_cons_zero, List.getElem?_cons_succ] at u0 u1 v0 x0 x1
      have hHz : True := trivial
      clear hb18 hb38 HI8 hx8 q0 q1 hxF hI13 hxd
      go_wp2_with fail
      refine (sameRow_ok HIF.out HI.out).mono ?_
      rintro e w14 ⟨rfl, he14⟩
      have u0 := he14.cell u0
      have v0 := he14.cell v0
      have x0 := he14.cell x0
      have x1 := he14.cell x1
      go_wp2_with fail
      refine (check_ok (HI.out.ext he14) R2.out.2.2.2.2 hn1 hn2 R2.out.2.2.1 R2.out.2.2.2.1).mono ?_
      rintro e w15 ⟨rfl, he15⟩
      have HZ := Lib.hid (HX.out.trans (he14.trans he15))
      have nn : ((n : Int) == n) = true := by simp
      go_wp2_with fail
      go_ret
      exact ⟨rfl, HZ.out⟩
    · have hfin := fin13 (a := a2) (Blk.ext (Blk.ext (Blk.new w8 27 #[.slice none 0 0, .int .i64 0]) (((Ext.alloc _ (.cells #[.slice B m d, .slice D q f] 22)).to_drew).trans hec)) hed) ho13 (by omega)
      have hxF : Ext w8 _ := And.right (And.right (by assumption : _ ∧ _ ∧ Ext w8 ((wd.setCell ⟨w8.heap.size, 0, none⟩ (.slice (some ⟨s13, 0, none⟩) n d13)).setCell ⟨w8.heap.size, 1, none⟩ (.int .i64 a2))))
      obtain ⟨hb13, hI13⟩ := hfin
      clear hcC hfC hzC hec hoc hSC hed hcD hfD hzD ho13 hSD
      revert hxF hb13 hI13
      generalize ((wd.setCell ⟨w8.heap.size, 0, none⟩ (.slice (some ⟨s13, 0, none⟩) n d13)).setCell ⟨w8.heap.size, 1, none⟩ (.int .i64 a2)) = wf
      generalize w8.heap.size = g13
      intro hxF hb13 hI13
      have hbF1 := hb18.ext hxF
      have hbF3 := hb38.ext hxF
      have HIF := Lib.hid (HI8.out.ext hxF)
      have HI := Lib.hid hI13
      have HX := Lib.hid (hx8.trans hxF)
      have u0 := hbF1.cell 0
      have u1 := hbF1.cell 1
      have v0 := hbF3.cell 0
      have x0 := hb13.cell 0
      have x1 := hb13.cell 1
      simp only [List.getElem?_toArray, List.getElem?_cons_zero, List.getElem?_cons_succ] at u0 u1 v0 x0 x1
      have hHz : True := trivial
      clear hb18 hb38 HI8 hx8 q0 q1 hxF hI13 hxd
      go_wp2_with fail
      refine (sameRow_ok HIF.out HI.out).mono ?_
      rintro e w14 ⟨rfl, he14⟩
      have u0 := he14.cell u0
      have v0 := he14.cell v0
      have x0 := he14.cell x0
      have x1 := he14.cell x1
      go_wp2_with fail
      refine (check_ok (HI.out.ext he14) R2.out.2.2.2.2 hn1 hn2 R2.out.2.2.1 R2.out.2.2.2.1).mono ?_
      rintro e w15 ⟨rfl, he15⟩
      have HZ := Lib.hid (HX.out.trans (he14.trans he15))
      have nn : ((n : Int) == n) = true := by simp
      go_wp2_with fail
      go_ret
      exact ⟨rfl, HZ.out⟩
  · have HSH := Lib.hid (show_bad (B := B) (m := m) (d := d) (HL.out.ext hx4) hg)
    clear hg
    go_wp2_with fail
    refine HSH.out.mono ?_
    rintro e w5 ⟨⟨k, hk, rfl⟩, he5⟩
    have bk : (k != 0) = true := by simpa using hk
    have HX := Lib.hid (hx4.trans (he5.trans (Ext.alloc w5 (.cells #[.slice none 0 0, .int .i64 0] 27))))
    clear HSH hk hx4 he5 hb34 k0 k1
    go_wp2_with fail
    go_ret
    exact ⟨rfl, HX.out⟩
end Go.Proofs.Ytnhpedkofanieaa
