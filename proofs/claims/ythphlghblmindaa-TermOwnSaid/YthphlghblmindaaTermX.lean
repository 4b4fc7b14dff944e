/-
  term.Check on any row; term.Show.
-/
import Derived.Test.YthphlghblmindaaTermW
import Derived.Test.YthphlghblmindaaClone
import Derived.Deep.RegionHeld3
namespace Go.Proofs.Ythphlghblmindaa
open Go.RowKit
set_option linter.unusedVariables false
set_option linter.unusedSimpArgs false

theorem chk1_bad {c : Int} {w : World} (h : ¬ goodC c) : Calls Try.prog 63 #[.int .i64 c] w fun e w' => e = .returned (.bool true) ∧ w' = w := by
  by_cases h1 : c < 32
  · clear h
    go_enter Try.func63, Try.ntmps63
    go_wp2_with fail
    go_ret
    exact ⟨rfl, rfl⟩
  · have h2 : c = 127 := by
      unfold goodC at h
      by_cases h2 : c = 127
      · exact h2
      · exact absurd ⟨by omega, h2⟩ h
    subst h2
    clear h h1
    go_enter Try.func63, Try.ntmps63
    go_wp2_with fail
    go_ret
    exact ⟨rfl, rfl⟩
set_option maxRecDepth 20000 in
set_option maxHeartbeats 2000000 in
theorem idxf_bad {A : Option Addr} {n c : Nat} {l : List Int} {w : World} (hl : Ints w A n c l) (hg : ¬ ∀ k, k < n → goodC (gI l k)) :
    Calls Try.prog 59 #[.slice A n c, .func (.func 63) #[] #[]] w fun e w' => (∃ k : Nat, e = .returned (.int .i64 k)) ∧ w' = w := by
  have h1 := hl.ncap
  have h2 := hl.nmax
  unfold maxLen at h2
  have HG := Lib.hid hg
  clear hg
  go_enter Try.func59, Try.ntmps59
  go_wp2_with fail
  go_loopw [8] (fun i wr => ∃ k : Nat, k ≤ n ∧ i = .int .i64 k ∧ Hid (∀ j, j < k → goodC (gI l j)) ∧ wr = w) (fun i _ => n - (intOf i).toNat)
  case atStart => exact ⟨0, by omega, rfl, Lib.hid (fun j h => absurd h (by omega)), rfl⟩
  case round =>
    obtain ⟨k, hk, rfl, HK, rfl⟩ := hrel
    by_cases hlt : k < n
    · obtain ⟨a1, rfl, hc1⟩ := hl.at_ hlt
      have c1 := hc1 k hlt
      clear hc1
      by_cases hz : goodC (gI l k)
      · have HN : Hid (∀ j, j < k + 1 → goodC (gI l j)) := Lib.hid (fun j hj => by
          rcases Nat.lt_or_ge j k with h3 | h3
          · exact HK.out j h3
          · rw [show j = k by omega]; exact hz)
        go_wp2_with fail
        refine (chk1_ok hz).mono ?_
        rintro e w1 ⟨rfl, rfl⟩
        clear hz
        go_wp2_with fail
        go_roundw
        case rel => exact ⟨k + 1, by omega, by go_num, HN, trivial⟩
        case measure => simp [intOf]; omega
      · go_wp2_with fail
        refine (chk1_bad hz).mono ?_
        rintro e w1 ⟨rfl, rfl⟩
        clear hz
        go_wp2_with fail
        go_ret
        exact ⟨⟨k, rfl⟩, rfl⟩
    · obtain rfl : k = n := by omega
      exact absurd HK.out HG.out
set_option maxRecDepth 20000 in
set_option maxHeartbeats 1000000 in
theorem contf_bad {A : Option Addr} {n c : Nat} {l : List Int} {w : World} (hl : Ints w A n c l) (hg : ¬ ∀ k, k < n → goodC (gI l k)) :
    Calls Try.prog 34 #[.slice A n c, .func (.func 63) #[] #[]] w fun e w' => e = .returned (.bool true) ∧ w' = w := by
  have HC := Lib.hid (idxf_bad hl hg)
  clear hg
  go_enter Try.func34, Try.ntmps34
  go_wp2_with fail
  refine HC.out.mono ?_
  rintro e w1 ⟨⟨k, rfl⟩, rfl⟩
  clear HC
  have hk : decide ((0 : Int) ≤ (k : Int)) = true := by simp
  go_wp2_with fail
  go_ret
  exact ⟨by first | rfl | simp, rfl⟩

/-- A row is a good one. -/
def rowOk (l : List Int) (n : Nat) (at_ : Int) : Prop := 2 ≤ n ∧ n ≤ 120 ∧ 0 ≤ at_ ∧ at_ ≤ n ∧ ∀ k, k < n → goodC (gI l k)
set_option maxRecDepth 20000 in
set_option maxHeartbeats 2000000 in
theorem check_bad {A : Option Addr} {n c : Nat} {l : List Int} {at_ : Int} {w : World} (hl : Ints w A n c l) (hg : ¬ rowOk l n at_) :
    Calls Try.prog 41 #[.agg #[.slice A n c, .int .i64 at_]] w fun e w' => (e = .returned (.int .i64 1) ∨ e = .returned (.int .i64 4)) ∧ Ext w w' := by
  have hnc := hl.ncap
  have hcm := hl.nmax
  unfold maxLen at hcm
  by_cases h1 : n < 2
  · clear hg
    go_enter Try.func41, Try.ntmps41
    go_wp2_with fail
    go_ret
    exact ⟨.inl rfl, Ext.alloc _ _⟩
  by_cases h2 : 120 < n
  · clear hg
    go_enter Try.func41, Try.ntmps41
    go_wp2_with fail
    go_ret
    exact ⟨.inl rfl, Ext.alloc _ _⟩
  by_cases h3 : at_ < 0
  · clear hg
    go_enter Try.func41, Try.ntmps41
    go_wp2_with fail
    go_ret
    exact ⟨.inl rfl, Ext.alloc _ _⟩
  by_cases h4 : (n : Int) < at_
  · clear hg
    go_enter Try.func41, Try.ntmps41
    go_wp2_with fail
    go_ret
    exact ⟨.inl rfl, Ext.alloc _ _⟩
  have HG : Hid (¬ ∀ k, k < n → goodC (gI l k)) := Lib.hid (fun h => hg ⟨by omega, by omega, by omega, by omega, h⟩)
  clear hg
  go_enter Try.func41, Try.ntmps41
  go_wp2_with fail
  refine (contf_bad (hl.ext (Ext.alloc _ _)) HG.out).mono ?_
  rintro e w1 ⟨rfl, rfl⟩
  go_wp2_with fail
  go_ret
  exact ⟨.inr rfl, Ext.alloc _ _⟩

set_option maxRecDepth 20000 in
set_option maxHeartbeats 4000000 in
theorem show_bad {A B : Option Addr} {n c m d : Nat} {l : List Int} {at_ : Int} {w : World} (hl : Ints w A n c l) (hg : ¬ rowOk l n at_) :
    Calls Try.prog 38 #[.agg #[.slice A n c, .int .i64 at_], .slice B m d] w fun e w' => (∃ k : Int, k ≠ 0 ∧ e = .returned (.tuple #[.agg #[.slice none 0 0, .int .i64 0], .int .i64 k])) ∧ Ext w w' := by
  have hx0 : Ext w ((w.alloc (.cells #[.slice A n c, .int .i64 at_] 34)).alloc (.cells #[.slice none 0 0, .int .i64 0] 34)) := (Ext.alloc _ _).to_alloc _
  have HC := Lib.hid (check_bad (hl.ext hx0) hg)
  have HX := Lib.hid hx0
  clear hl hg hx0
  go_enter Try.func38, Try.ntmps38
  go_wp2_with fail
  refine HC.out.mono ?_
  rintro e w1 ⟨he, hx⟩
  have hb4 : Blk w1 (w.heap.size + 1) 34 #[.slice none 0 0, .int .i64 0] := by
    refine Blk.ext ?_ hx
    simpa using Blk.new (w.alloc (.cells #[.slice A n c, .int .i64 at_] 34)) 34 #[.slice none 0 0, .int .i64 0]
  have k0 := hb4.cell 0
  have k1 := hb4.cell 1
  have f0 := hb4.frozen 0
  have f1 := hb4.frozen 1
  simp only [List.getElem?_toArray, List.getElem?_cons_zero, List.getElem?_cons_succ] at k0 k1
  have HXX : Hid (Ext w ((w1.setCell ⟨w.heap.size + 1, 0, none⟩ (.slice none 0 0)).setCell ⟨w.heap.size + 1, 1, none⟩ (.int .i64 0))) := Lib.hid (((HX.out.trans hx).setCell (Nat.le_succ _) _).setCell (Nat.le_succ _) _)
  clear hx hb4 HC HX
  rcases he with rfl | rfl
  · go_wp2_with fail
    refine bodyPost_ret (by simp [results, Try.results38, go_sem, k0, k1]; try rfl) rfl ?_
    exact ⟨⟨1, by decide, rfl⟩, HXX.out⟩
  · go_wp2_with fail
    refine bodyPost_ret (by simp [results, Try.results38, go_sem, k0, k1]; try rfl) rfl ?_
    exact ⟨⟨4, by decide, rfl⟩, HXX.out⟩

theorem own_some {w : World} {base n c : Nat} {A : Option Addr} {l : List Int} (h : OwnI w base A n c l) (hn : 0 < n) : ∃ s, A = some ⟨s, 0, none⟩ ∧ base ≤ s ∧ s < w.heap.size := by
  have hh : Own w base 3 1 A n c (l.map (Value.int .i64)) := h
  obtain ⟨h1, h2⟩ := hh
  rcases h2 with h2 | ⟨g, cap, cur, hv, hb, hg, r⟩
  · exfalso
    have := h2.1
    cases this
    omega
  · cases hv
    refine ⟨g, rfl, hb, ?_⟩
    rcases Nat.lt_or_ge g w.heap.size with h3 | h3
    · exact h3
    · rw [Array.getElem?_eq_none h3] at hg; cases hg

/-- What stays while a region makes blocks. -/
def LowT (wr : World) (g : Nat) (x y : Value) (w' : World) : Prop := w'.cell? ⟨g, 0, none⟩ = some x ∧ w'.cell? ⟨g, 1, none⟩ = some y ∧ Ext wr w'
theorem LowT.ext {wr w' : World} {g : Nat} {x y : Value} (h : LowT wr g x y w') : Ext wr w' := h.2.2
theorem LowT.call {wr w' w2 : World} {g : Nat} {x y : Value} (h : LowT wr g x y w') (he : Ext w' w2) : LowT wr g x y w2 := ⟨he.cell h.1, he.cell h.2.1, h.2.2.trans he⟩
theorem LowT.alloc {wr w' : World} {g : Nat} {x y : Value} (h : LowT wr g x y w') (o : Obj) : LowT wr g x y (w'.alloc o) := h.call (Ext.alloc _ _)
theorem LowT.drew {wr w' : World} {g : Nat} {x y : Value} (h : LowT wr g x y w') : LowT wr g x y w'.drew := h.call (Ext.drew _)
theorem cell_setNe {w' : World} {g i : Nat} {x : Value} {p : Addr} {u : Value} (h : w'.cell? ⟨g, i, none⟩ = some x) (hne : p.block ≠ g) : (w'.setCell p u).cell? ⟨g, i, none⟩ = some x := by
  unfold World.cell? World.setCell at *
  simp only [Array.getElem?_modify]
  rw [if_neg hne]
  exact h
theorem LowT.set {wr w' : World} {g : Nat} {x y : Value} {p : Addr} (h : LowT wr g x y w') (hg : g < wr.heap.size) (hp : wr.heap.size ≤ p.block) (u : Value) : LowT wr g x y (w'.setCell p u) :=
  ⟨cell_setNe h.1 (by omega), cell_setNe h.2.1 (by omega), h.2.2.setCell hp u⟩
theorem ext_rulesT {W w1 : World} (hb : Ext W w1) : (∀ b o, b < W.heap.size → w1.cell? ⟨b, o, none⟩ = W.cell? ⟨b, o, none⟩) ∧ (∀ b o, b < W.heap.size → w1.frozen? ⟨b, o, none⟩ = W.frozen? ⟨b, o, none⟩) ∧ W.heap.size ≤ w1.heap.size :=
  ⟨fun b o h => Below.cell hb (p := ⟨b, o, none⟩) h, fun b o h => Below.frozen hb (p := ⟨b, o, none⟩) h, hb.hsize⟩
theorem drewT_size (w : World) : w.drew.heap.size = w.heap.size := rfl
theorem setT_size (w : World) (p : Addr) (u : Value) : (w.setCell p u).heap.size = w.heap.size := by simp

set_option maxRecDepth 20000 in
set_option maxHeartbeats 8000000 in
theorem show_ok {A B : Option Addr} {n c m d : Nat} {l sg : List Int} {a : Nat} {w : World} (hl : Ints w A n c l) (hA : A = none → c = 0) (hs : Ints w B m d sg) (hg : rowOk l n a) :
    Calls Try.prog 38 #[.agg #[.slice A n c, .int .i64 a], .slice B m d] w fun e w' => (∃ s d', e = .returned (.tuple #[.agg #[.slice (some ⟨s, 0, none⟩) n d', .int .i64 ((showR (l, a) sg).2 : Nat)], .int .i64 0]) ∧ OwnI w' w.heap.size (some ⟨s, 0, none⟩) n d' (showR (l, a) sg).1) ∧ Ext w w' := by
  have hx0 : Ext w ((w.alloc (.cells #[.slice A n c, .int .i64 a] 34)).alloc (.cells #[.slice none 0 0, .int .i64 0] 34)) := (Ext.alloc _ _).to_alloc _
  obtain ⟨g1, g2, g3, g4, g5⟩ := hg
  have HC := Lib.hid (check_ok (hl.ext hx0) g5 g1 g2 g3 g4)
  have HX := Lib.hid hx0
  have HL := Lib.hid hl
  have HAA := Lib.hid hA
  have HS := Lib.hid hs
  have hlen := Lib.hid hl.len
  have hsl := Lib.hid hs.len
  have hmd := hs.ncap
  have hdm := hs.nmax
  unfold maxLen at hdm
  have GR : Hid (goodR (l, a)) := Lib.hid ⟨by rw [hlen.out]; exact g1, by rw [hlen.out]; exact g2, by rw [hlen.out]; simpa using g4, by rw [hlen.out]; exact g5⟩
  clear hl hs hA hx0 g5
  go_enter Try.func38, Try.ntmps38
  go_wp2_with fail
  refine HC.out.mono ?_
  rintro e w1 ⟨rfl, hx⟩
  have hb2 : Blk w1 w.heap.size 34 #[.slice A n c, .int .i64 a] := ((Blk.new w 34 #[.slice A n c, .int .i64 a]).ext (Ext.alloc _ (.cells #[.slice none 0 0, .int .i64 0] 34))).ext hx
  have hb4 : Blk w1 (w.heap.size + 1) 34 #[.slice none 0 0, .int .i64 0] := by
    refine Blk.ext ?_ hx
    simpa using Blk.new (w.alloc (.cells #[.slice A n c, .int .i64 a] 34)) 34 #[.slice none 0 0, .int .i64 0]
  have hx1 := HX.out.trans hx
  have HCL : Hid (∀ wq, Ext w1 wq → Calls Try.prog 24 #[.slice A n c] wq fun e w' => ∃ B d, e = .returned (.slice B n d) ∧ OwnI w' wq.heap.size B n d l ∧ (B = none → d = 0) ∧ Ext wq w') := Lib.hid (fun wq he => clone_ok (HL.out.ext (hx1.trans he)) HAA.out (by omega))
  have q0 := hb2.cell 0
  have q1 := hb2.cell 1
  simp only [List.getElem?_toArray, List.getElem?_cons_zero, List.getElem?_cons_succ] at q0 q1
  have hg2 : w.heap.size < w1.heap.size := hb2.lt
  have hg4 : w.heap.size + 1 < w1.heap.size := hb4.lt


  have hxd := Ext.drew w1
  clear HC hx HX
  go_wp2_with fail

  go_region_held3 (fun w' => w'.cell? ⟨w.heap.size, 0, none⟩ = some (.slice A n c) ∧ w'.cell? ⟨w.heap.size, 1, none⟩ = some (.int .i64 a) ∧ Ext w1 w') (first
    | assumption
    | exact ⟨q0, q1, hxd⟩
    | (show LowT w1 w.heap.size (.slice A n c) (.int .i64 a) _
       ((repeat (first | refine LowT.alloc ?_ _ | refine LowT.set ?_ hg2 ?_ _ | refine LowT.drew ?_)) <;> first | assumption | exact ⟨q0, q1, hxd⟩ | exact ⟨q0, q1, Ext.refl _⟩ | ((try simp only [World.size_alloc, drewT_size]); omega)))
    | (show LowT w1 w.heap.size (.slice A n c) (.int .i64 a) _
       (refine LowT.call (wr := w1) (g := w.heap.size) (x := .slice A n c) (y := .int .i64 a) ?_ (by assumption)); assumption)) (first
    | (go_at_call 24
       refine (HCL.out _ (by first | exact hxd | exact LowT.ext (wr := w1) (g := w.heap.size) (x := .slice A n c) (y := .int .i64 a) (by assumption))).mono ?_
       rintro e wa ⟨C, dc, rfl, hoc, hcn, hea⟩
       have hSA := LowT.call (wr := w1) (g := w.heap.size) (x := .slice A n c) (y := .int .i64 a) (by assumption) hea
       obtain ⟨hcA, hfA, hzA⟩ := ext_rulesT hea
       try simp only [World.size_alloc, drewT_size] at hzA
       try (have qa : w1.heap.size < wa.heap.size := (by omega); have qaa : ¬ w1.heap.size = wa.heap.size := (by omega); have qab : ¬ wa.heap.size = w1.heap.size := (by omega))))
  · obtain ⟨s, rfl, hs1, hs2⟩ := own_some hoc (by omega)
    have hrow : RowAt (wa.alloc (.cells #[.slice (some ⟨s, 0, none⟩) n dc, .int .i64 a] 34)) w1.heap.size wa.heap.size s n dc (l, a) := ⟨Blk.new _ _ _, hoc.ext (Ext.alloc _ _), by omega⟩
    have hxw : Ext w1 (wa.alloc (.cells #[.slice (some ⟨s, 0, none⟩) n dc, .int .i64 a] 34)) := hSA.ext.to_alloc _
    have hs3 : w1.heap.size ≤ s := hs1
    clear hcA hfA hea hoc hSA hcn
    revert hrow hxw
    generalize wa.alloc (.cells #[.slice (some ⟨s, 0, none⟩) n dc, .int .i64 a] 34) = W0
    generalize hgg : wa.heap.size = gg
    intro hrow hxw
    have hg3 : w1.heap.size ≤ gg := by omega
    clear hgg hzA hs2 hs1 hxd
    clear q0 q1
    go_wp2_with fail
    go_loopw [24] (fun v wr => ∃ k : Nat, k ≤ m ∧ v = .int .i64 k ∧ RowAt wr w1.heap.size gg s n dc (showR (l, a) (sg.take k)) ∧ Keeps2 W0 wr gg s) (fun v _ => m - (intOf v).toNat)
    case atStart => exact ⟨0, by omega, rfl, hrow, Keeps2.refl _ _ _⟩
    case round =>
      obtain ⟨k, hk, rfl, hr, hkp⟩ := hrel
      have hy := hkp w1 hxw hg3 hs3
      by_cases hlt : k < m
      · obtain ⟨ad, rfl, hc⟩ := HS.out.at_ hlt
        have c1 := (hx1.trans hy).cell (hc k hlt)
        have HSU : Hid (showR (l, a) (sg.take (k + 1)) = stepR (showR (l, a) (sg.take k)) (gI sg k)) := Lib.hid (show_succ (by rw [hsl.out]; exact hlt))
        have HON := Lib.hid (one_ok (c := gI sg k) hr g2 (by have := (show_good (s := sg.take k) GR.out).2.2.1; rw [hr.len] at this; exact this))
        clear hc
        generalize gI sg k = z at *
        go_wp2_with fail
        refine HON.out.mono ?_
        rintro e w5 ⟨rfl, hr5, hk5⟩
        rw [← HSU.out] at hr5
        clear HON HSU hr
        go_wp2_with fail
        go_roundw
        case rel => exact ⟨k + 1, by omega, by go_num, hr5, hkp.trans hk5⟩
        case measure => simp [intOf]; omega
      · obtain rfl : k = m := by omega
        rw [List.take_of_length_le (by rw [hsl.out]; exact Nat.le_refl _)] at hr
        have hb7 := hr.1
        have hb4z := hb4.ext hy
        have r0 := hb7.cell 0
        have r1 := hb7.cell 1
        have k0 := hb4z.cell 0
        have k1 := hb4z.cell 1
        have f0 := hb4z.frozen 0
        have f1 := hb4z.frozen 1
        simp only [List.getElem?_toArray, List.getElem?_cons_zero, List.getElem?_cons_succ] at k0 k1 r0 r1
        have HR := Lib.hid hr.2.1
        have HY := Lib.hid (hx1.trans hy)
        clear hr hkp hy hb7 hb4z hrow hxw
        obtain ⟨a2, ha2⟩ : ∃ a2, a2 = (showR (l, a) sg).2 := ⟨_, rfl⟩
        rw [← ha2] at r1
        have HA2 := Lib.hid ha2
        clear ha2
        go_wp2_with fail
        refine bodyPost_ret (by simp [results, Try.results38, go_sem, k0, k1]; try rfl) rfl ?_
        refine ⟨⟨s, dc, by rw [← HA2.out], ?_⟩, (HY.out.setCell (Nat.le_succ _) _).setCell (Nat.le_succ _) _⟩
        refine Own.setNeT (Own.setNeT (Own.lower HR.out (by omega)) (fun q hq => ?_) _) (fun q hq => ?_) _
        · have hq : some s = some q := hq
          injection hq with hq
          subst hq; simp only; omega
        · have hq : some s = some q := hq
          injection hq with hq
          subst hq; simp only; omega
  · obtain ⟨s, rfl, hs1, hs2⟩ := own_some hoc (by omega)
    simp only [World.size_alloc, drewT_size] at hs1
    have hbn : Blk wa w1.heap.size 34 #[.slice none 0 0, .int .i64 0] := Blk.ext (Blk.new w1 34 #[.slice none 0 0, .int .i64 0]) ((Ext.drew _).trans hea)
    have hrow : RowAt ((wa.setCell ⟨w1.heap.size, 0, none⟩ (.slice (some ⟨s, 0, none⟩) n dc)).setCell ⟨w1.heap.size, 1, none⟩ (.int .i64 a)) w1.heap.size w1.heap.size s n dc (l, a) := by
      refine ⟨by simpa using (hbn.set_ 0 (.slice (some ⟨s, 0, none⟩) n dc)).set_ 1 (.int .i64 a), ?_, by omega⟩
      refine Own.setNeT (Own.setNeT (Own.lower hoc (by simp only [World.size_alloc, drewT_size]; omega)) (fun q hq => ?_) _) (fun q hq => ?_) _
      · have hq : some s = some q := hq
        injection hq with hq
        subst hq; simp only; omega
      · have hq : some s = some q := hq
        injection hq with hq
        subst hq; simp only; omega
    have hxw : Ext w1 ((wa.setCell ⟨w1.heap.size, 0, none⟩ (.slice (some ⟨s, 0, none⟩) n dc)).setCell ⟨w1.heap.size, 1, none⟩ (.int .i64 a)) := (hSA.ext.setCell (Nat.le_refl _) _).setCell (Nat.le_refl _) _
    have hs3 : w1.heap.size ≤ s := by omega
    clear hcA hfA hea hoc hSA hcn hbn
    revert hrow hxw
    generalize (wa.setCell ⟨w1.heap.size, 0, none⟩ (.slice (some ⟨s, 0, none⟩) n dc)).setCell ⟨w1.heap.size, 1, none⟩ (.int .i64 a) = W0
    intro hrow hxw
    clear hxd hs1 hs2
    clear q0 q1
    go_wp2_with fail
    go_loopw [24] (fun v wr => ∃ k : Nat, k ≤ m ∧ v = .int .i64 k ∧ RowAt wr w1.heap.size w1.heap.size s n dc (showR (l, a) (sg.take k)) ∧ Keeps2 W0 wr w1.heap.size s) (fun v _ => m - (intOf v).toNat)
    case atStart => exact ⟨0, by omega, rfl, hrow, Keeps2.refl _ _ _⟩
    case round =>
      obtain ⟨k, hk, rfl, hr, hkp⟩ := hrel
      have hy := hkp w1 hxw (Nat.le_refl _) hs3
      by_cases hlt : k < m
      · obtain ⟨ad, rfl, hc⟩ := HS.out.at_ hlt
        have c1 := (hx1.trans hy).cell (hc k hlt)
        have HSU : Hid (showR (l, a) (sg.take (k + 1)) = stepR (showR (l, a) (sg.take k)) (gI sg k)) := Lib.hid (show_succ (by rw [hsl.out]; exact hlt))
        have HON := Lib.hid (one_ok (c := gI sg k) hr g2 (by have := (show_good (s := sg.take k) GR.out).2.2.1; rw [hr.len] at this; exact this))
        clear hc
        generalize gI sg k = z at *
        go_wp2_with fail
        refine HON.out.mono ?_
        rintro e w5 ⟨rfl, hr5, hk5⟩
        rw [← HSU.out] at hr5
        clear HON HSU hr
        go_wp2_with fail
        go_roundw
        case rel => exact ⟨k + 1, by omega, by go_num, hr5, hkp.trans hk5⟩
        case measure => simp [intOf]; omega
      · obtain rfl : k = m := by omega
        rw [List.take_of_length_le (by rw [hsl.out]; exact Nat.le_refl _)] at hr
        have hb7 := hr.1
        have hb4z := hb4.ext hy
        have r0 := hb7.cell 0
        have r1 := hb7.cell 1
        have k0 := hb4z.cell 0
        have k1 := hb4z.cell 1
        have f0 := hb4z.frozen 0
        have f1 := hb4z.frozen 1
        simp only [List.getElem?_toArray, List.getElem?_cons_zero, List.getElem?_cons_succ] at k0 k1 r0 r1
        have HR := Lib.hid hr.2.1
        have HY := Lib.hid (hx1.trans hy)
        clear hr hkp hy hb7 hb4z hrow hxw
        obtain ⟨a2, ha2⟩ : ∃ a2, a2 = (showR (l, a) sg).2 := ⟨_, rfl⟩
        rw [← ha2] at r1
        have HA2 := Lib.hid ha2
        clear ha2
        go_wp2_with fail
        refine bodyPost_ret (by simp [results, Try.results38, go_sem, k0, k1]; try rfl) rfl ?_
        refine ⟨⟨s, dc, by rw [← HA2.out], ?_⟩, (HY.out.setCell (Nat.le_succ _) _).setCell (Nat.le_succ _) _⟩
        refine Own.setNeT (Own.setNeT (Own.lower HR.out (by omega)) (fun q hq => ?_) _) (fun q hq => ?_) _
        · have hq : some s = some q := hq
          injection hq with hq
          subst hq; simp only; omega
        · have hq : some s = some q := hq
          injection hq with hq
          subst hq; simp only; omega
end Go.Proofs.Ythphlghblmindaa
