/-
  The walk of RopeLow.
-/
import Derived.Test.YthljopjpjjaadaaRopeO
import Derived.Test.YthljopjpjjaadaaRest
import Derived.Deep.DeepCutAuto
import Derived.Deep.CutRange
import Derived.Deep.Light
namespace Go.Proofs.Ythljopjpjjaadaa
open Go.RowKit
set_option linter.unusedVariables false
set_option linter.unusedSimpArgs false

theorem low_lit : (Tr.build [1, 2, 3]).ht = 2 ∧ (Tr.build [1, 2, 3]).sz = 3 := by decide +kernel
theorem build_all (l : List Int) : (Tr.build l).bal ∧ (Tr.build l).sz = l.length := by
  have h := build_spec l.length l (Nat.le_refl _)
  refine ⟨h.1, ?_⟩
  have := congrArg List.length h.2
  rw [Tr.len] at this
  exact this

theorem alloc_size (w : World) (o : Obj) : (w.alloc o).heap.size = w.heap.size + 1 := by simp
theorem setCell_size (w : World) (p : Addr) (u : Value) : (w.setCell p u).heap.size = w.heap.size := by simp
theorem drew_size (w : World) : w.drew.heap.size = w.heap.size := rfl
theorem ext_rules {W w1 : World} (hb : Ext W w1) : (∀ b o, b < W.heap.size → w1.cell? ⟨b, o, none⟩ = W.cell? ⟨b, o, none⟩) ∧ (∀ b o, b < W.heap.size → w1.frozen? ⟨b, o, none⟩ = W.frozen? ⟨b, o, none⟩) ∧ W.heap.size ≤ w1.heap.size :=
  ⟨fun b o h => Below.cell hb (p := ⟨b, o, none⟩) h, fun b o h => Below.frozen hb (p := ⟨b, o, none⟩) h, hb.hsize⟩
theorem Blk.newAt {w : World} {g t : Nat} {cs : Array Value} (h : g = w.heap.size) : Blk (w.alloc (.cells cs t)) g t cs := by subst h; exact Blk.new _ _ _
theorem Blk.new2 {w : World} {o : Obj} {t : Nat} {cs : Array Value} : Blk ((w.alloc o).alloc (.cells cs t)) (w.heap.size + 1) t cs := Blk.newAt (by simp)
theorem Blk.new3 {w : World} {p : Addr} {u : Value} {t : Nat} {cs : Array Value} : Blk ((w.setCell p u).alloc (.cells cs t)) w.heap.size t cs := Blk.newAt (by simp)
theorem Blk.new1 {w : World} {t : Nat} {cs : Array Value} : Blk (w.alloc (.cells cs t)) w.heap.size t cs := Blk.new _ _ _
theorem Blk.alloc1 {w : World} {g t : Nat} {cs : Array Value} {o : Obj} (h : Blk w g t cs) : Blk (w.alloc o) g t cs := h.ext (Ext.alloc _ _)
theorem Blk.drewB {w : World} {g t : Nat} {cs : Array Value} (h : Blk w g t cs) : Blk w.drew g t cs := h
theorem Blk.set1 {w : World} {g t : Nat} {u : Value} (h : Blk w g t #[.pointer none]) : Blk (w.setCell ⟨g, 0, none⟩ u) g t #[u] := by simpa using h.set_ 0 u
theorem TreeAt.slotB {w : World} {q : Nat} {x u : Value} {t : Tr} {a : Option Addr} (hb : Blk w q 26 #[x]) (h : TreeAt w a t) : TreeAt (w.setCell ⟨q, 0, none⟩ u) a t := TreeAt.slot (by decide) hb h
theorem low_keep {wr w' : World} {g : Nat} {x : Value} {p : Addr} {u : Value} (h : w'.cell? ⟨g, 0, none⟩ = some x ∧ Ext wr w') (hg : g < wr.heap.size) (hp : wr.heap.size ≤ p.block) : (w'.setCell p u).cell? ⟨g, 0, none⟩ = some x ∧ Ext wr (w'.setCell p u) := by
  refine ⟨?_, h.2.setCell hp u⟩
  have hw := h.2
  have e := h.1
  have hne : p.block ≠ g := by omega
  unfold World.cell? World.setCell at *
  simp only [Array.getElem?_modify]
  rw [if_neg hne]
  exact e

/-- What stays in the region that cuts. -/
def LowS (wr : World) (g : Nat) (x : Value) (w' : World) : Prop := w'.cell? ⟨g, 0, none⟩ = some x ∧ Ext wr w'
theorem LowS.ext {wr w' : World} {g : Nat} {x : Value} (h : LowS wr g x w') : Ext wr w' := h.2
theorem LowS.call {wr w' w2 : World} {g : Nat} {x : Value} (h : LowS wr g x w') (he : Ext w' w2) : LowS wr g x w2 := ⟨he.cell h.1, h.2.trans he⟩
theorem LowS.alloc {wr w' : World} {g : Nat} {x : Value} (h : LowS wr g x w') (o : Obj) : LowS wr g x (w'.alloc o) := ⟨(Ext.alloc _ _).cell h.1, h.2.to_alloc _⟩
theorem LowS.drew {wr w' : World} {g : Nat} {x : Value} (h : LowS wr g x w') : LowS wr g x w'.drew := ⟨(Ext.drew _).cell h.1, h.2.to_drew⟩
theorem LowS.set {wr w' : World} {g : Nat} {x : Value} {p : Addr} (h : LowS wr g x w') (hg : g < wr.heap.size) (hp : wr.heap.size ≤ p.block) (u : Value) : LowS wr g x (w'.setCell p u) := low_keep h hg hp

set_option maxRecDepth 100000 in
set_option maxHeartbeats 40000000 in
theorem ropeLow_walk {l ks : List Int} {A B : Option Addr} {n m c d : Nat} {w : World} (hl : Ints w A n c l) (hk : Ints w B m d ks) :
    Calls Try.prog 4 #[.slice A n c, .slice B m d] w fun e w' => e = .returned (.bool true) ∧ Ext w w' := by
  have hlen := Lib.hid hl.len
  have hnc := hl.ncap
  have hcm := hl.nmax
  have hmd := hk.ncap
  have hdm := hk.nmax
  unfold maxLen at hcm hdm
  have hx1 := Ext.alloc w (.cells #[.int .i64 1, .int .i64 2, .int .i64 3] 3)
  have hI : Ints (w.alloc (.cells #[.int .i64 1, .int .i64 2, .int .i64 3] 3)) (some ⟨w.heap.size, 0, none⟩) 3 3 [1, 2, 3] := Blk.ints (l := [1, 2, 3]) (Blk.new _ _ _) rfl (by decide)
  have HR := Lib.hid (roped_ok hI (by omega))
  clear hI
  go_enter Try.func4, Try.ntmps4
  go_wp2_with fail
  refine HR.out.mono ?_
  rintro e w1 ⟨v1, rfl, t1, he1⟩
  have hxa := hx1.trans he1
  have hx2 := hxa.trans (Ext.alloc w1 (.cells #[.pointer v1] 26))
  have hb5 := Blk.new w1 26 #[.pointer v1]
  have t1' := TreeAt.ext (Ext.alloc w1 (.cells #[.pointer v1] 26)) t1
  have HT := Lib.hid (tallR_ok t1')
  have HTT := Lib.hid t1'
  rw [low_lit.1] at HT
  clear HR t1 t1' hx1 he1
  go_wp2_with fail
  refine HT.out.mono ?_
  rintro e w2 ⟨rfl, he2⟩
  have c5 := (hb5.ext he2).cell 0
  simp only [List.getElem?_toArray, List.getElem?_cons_zero, List.getElem?_cons_succ] at c5
  have HL := Lib.hid (len_ok (TreeAt.ext he2 HTT.out))
  rw [low_lit.2] at HL
  clear HT hb5
  go_wp2_with fail
  refine HL.out.mono ?_
  rintro e w3 ⟨rfl, he3⟩
  have hx3 := (hx2.trans he2).trans he3
  clear HL HTT c5 hx2 he2 he3 hxa
  by_cases hn : 4096 < n
  · have HO := Lib.hid (of_large (A := A) (c := c) (w := w3) hnc (by unfold maxLen; omega) hn)
    go_wp2_with fail
    refine HO.out.mono ?_
    rintro e w4 ⟨rfl, he4⟩
    have hx4 := (hx3.trans he4).trans (Ext.alloc w4 (.cells #[.pointer none] 26))
    have HL2 := Lib.hid (len_ok (t := .nil) (a := none) (w := w4.alloc (.cells #[.pointer none] 26)) rfl)
    clear HO
    go_wp2_with fail
    refine HL2.out.mono ?_
    rintro e w5 ⟨rfl, he5⟩
    go_wp2_with fail
    go_ret
    exact ⟨rfl, hx4.trans he5⟩
  · have HO := Lib.hid (of_small (hl.ext hx3) (by omega))
    go_wp2_with fail
    refine HO.out.mono ?_
    rintro e w4 ⟨v, rfl, tv, he4⟩
    have hx4 := (hx3.trans he4).trans (Ext.alloc w4 (.cells #[.pointer v] 26))
    have hb6 := Blk.new w4 26 #[.pointer v]
    have tv' := TreeAt.ext (Ext.alloc w4 (.cells #[.pointer v] 26)) tv
    have hg0 : w.heap.size ≤ w4.heap.size := (hx3.trans he4).hsize
    have HBA := Lib.hid (build_all l)
    clear HO tv he4
    go_wp2_with fail
    go_loopw [35] (fun i wr => ∃ (j : Nat) (v : Option Addr) (T : Tr), j ≤ m ∧ i = .int .i64 j ∧ Blk wr w4.heap.size 26 #[.pointer v] ∧ Hid (TreeAt wr v T) ∧ Hid (T.bal ∧ T.sz = n) ∧ Ext w wr) (fun i _ => m - (intOf i).toNat)
    case atStart => exact ⟨0, v, Tr.build l, by omega, rfl, hb6, Lib.hid tv', Lib.hid ⟨HBA.out.1, by rw [HBA.out.2, hlen.out]⟩, hx4⟩
    case round =>
      clear hb6 tv' hx4 HBA
      obtain ⟨j, v, T, hj, rfl, hb, HTv, HB, he⟩ := hrel
      have c6 := hb.cell 0
      simp only [List.getElem?_toArray, List.getElem?_cons_zero, List.getElem?_cons_succ] at c6
      by_cases hlt : j < m
      · obtain ⟨ad, rfl, hc⟩ := hk.at_ hlt
        have d1 := he.cell (hc j hlt)
        have hsz : Hid (T.sz = n) := Lib.hid HB.out.2
        obtain ⟨n1, hn1⟩ : ∃ n1, n1 = n + 1 := ⟨_, rfl⟩
        have hw1 : IntKind.i64.wrap ((n : Int) + 1) = (n1 : Int) := by rw [IntWalk.i64_in _ (by omega)]; omega
        have HN1 : Hid (n1 = n + 1 ∧ n ≤ 4096) := Lib.hid ⟨hn1, by omega⟩
        have hxd := Ext.drew wr
        have H1 : Hid (∀ (w1 : World) (a' : Option Addr), a' = v → Ext wr w1 → Calls Try.prog 13 #[.agg #[.pointer a']] w1 fun e w' => e = .returned (.int .i64 n) ∧ Ext w1 w') :=
          Lib.hid (fun w1 a' hq he => by rw [hq, ← hsz.out]; exact len_ok (TreeAt.ext he HTv.out))
        have H2 : Hid (∀ (w1 : World) (a' : Option Addr), a' = v → Ext wr w1 → Calls Try.prog 14 #[.agg #[.pointer a'], .int .i64 (restF (gI ks j) n1)] w1 fun e w' => ∃ v1 v2, e = .returned (.tuple #[.agg #[.pointer v1], .agg #[.pointer v2], .int .i64 0]) ∧ TreeAt w' v1 (T.split (restF (gI ks j) n1)).1 ∧ TreeAt w' v2 (T.split (restF (gI ks j) n1)).2 ∧ Ext w1 w') :=
          Lib.hid (fun w1 a' hq he => by
            rw [hq]
            have := restF_lt (a := gI ks j) (b := n1) (by have := HN1.out; omega)
            exact splitR_ok (TreeAt.ext he HTv.out) (by have := HN1.out; rw [hsz.out]; omega) HB.out.1 (by have := HN1.out; rw [hsz.out]; omega))
        have HX : Hid (∀ w1, Calls Try.prog 15 #[.int .i64 (gI ks j), .int .i64 n1] w1 fun e w' => e = .returned (.int .i64 (restF (gI ks j) n1)) ∧ w1 = w') :=
          Lib.hid (fun w1 => (rest_ok _ _ _ (by have := HN1.out; omega) (by have := HN1.out; omega)).mono fun _ _ ⟨ha, hb⟩ => ⟨ha, hb.symm⟩)
        clear hc hn1
        generalize restF (gI ks j) n1 = q at *
        have hgl := hb.lt
        go_upto_region 10 with fail
        go_cut [10, 11, 12] from 39 to 84 (fun s10 s11 s12 wx => ∃ (g1 g2 : Nat) (v1 v2 : Option Addr), s10 = .pointer (some ⟨g1, 0, none⟩) ∧ s11 = .pointer (some ⟨g2, 0, none⟩) ∧ s12 = .int .i64 0 ∧ Blk wx g1 26 #[.pointer v1] ∧ Blk wx g2 26 #[.pointer v2] ∧ g1 ≠ w4.heap.size ∧ g2 ≠ w4.heap.size ∧ TreeAt wx v1 (T.split q).1 ∧ TreeAt wx v2 (T.split q).2 ∧ Ext wr wx)
        case first =>
          go_region_held3 (fun w' => w'.cell? ⟨w4.heap.size, 0, none⟩ = some (.pointer v) ∧ Ext wr w') (first
            | assumption
            | exact ⟨c6, hxd⟩
            | (show LowS wr w4.heap.size (.pointer v) _
               ((repeat (first | refine LowS.alloc ?_ _ | refine LowS.set ?_ hgl ?_ _ | refine LowS.drew ?_)) <;> first | assumption | exact ⟨c6, hxd⟩ | exact ⟨c6, Ext.refl _⟩ | ((try simp only [World.size_alloc, drew_size]); omega)))
            | (show LowS wr w4.heap.size (.pointer v) _
               (refine LowS.call (wr := wr) (g := w4.heap.size) (x := .pointer v) ?_ (by assumption)); assumption)) (first
            | (go_at_call 13
               refine (H1.out _ _ (by with_reducible rfl) (by first | exact LowS.ext (wr := wr) (g := w4.heap.size) (x := .pointer v) (by assumption) | exact hxd)).mono ?_
               rintro e wa ⟨rfl, hea⟩
               have hSA := LowS.call (wr := wr) (g := w4.heap.size) (x := .pointer v) (by assumption) hea
               obtain ⟨hcA, hfA, hzA⟩ := ext_rules hea
               try simp only [World.size_alloc, drew_size] at hzA
               try (have qa : wr.heap.size < wa.heap.size := (by omega); have qaa : ¬ wr.heap.size = wa.heap.size := (by omega); have qab : ¬ wa.heap.size = wr.heap.size := (by omega); have qac : ¬ wr.heap.size = wa.heap.size + 1 := (by omega))
               try (have qb : wr.heap.size + 1 < wa.heap.size := (by omega); have qba : ¬ wr.heap.size + 1 = wa.heap.size := (by omega); have qbb : ¬ wa.heap.size = wr.heap.size + 1 := (by omega); have qbc : ¬ wr.heap.size + 1 = wa.heap.size + 1 := (by omega)))
            | (go_at_call 15
               refine (HX.out _).mono ?_
               rintro e wb ⟨rfl, rfl⟩)
            | (go_at_call 14
               refine (H2.out _ _ (by with_reducible rfl) (by first | exact LowS.ext (wr := wr) (g := w4.heap.size) (x := .pointer v) (by assumption) | exact hxd)).mono ?_
               rintro e wc ⟨v1, v2, rfl, t1, t2, hec⟩
               have hSC := LowS.call (wr := wr) (g := w4.heap.size) (x := .pointer v) (by assumption) hec
               obtain ⟨hcC, hfC, hzC⟩ := ext_rules hec
               try simp only [World.size_alloc, drew_size] at hzC
               try (have qc : wr.heap.size < wc.heap.size := (by omega); have qca : ¬ wr.heap.size = wc.heap.size := (by omega); have qcb : ¬ wc.heap.size = wr.heap.size := (by omega); have qcc : ¬ wr.heap.size = wc.heap.size + 1 := (by omega))
               try (have qd : wr.heap.size + 1 < wc.heap.size := (by omega); have qda : ¬ wr.heap.size + 1 = wc.heap.size := (by omega); have qdb : ¬ wc.heap.size = wr.heap.size + 1 := (by omega); have qdc : ¬ wr.heap.size + 1 = wc.heap.size + 1 := (by omega))
               try (have qe : wa.heap.size < wc.heap.size := (by omega); have qea : ¬ wa.heap.size = wc.heap.size := (by omega); have qeb : ¬ wc.heap.size = wa.heap.size := (by omega); have qec : ¬ wa.heap.size = wc.heap.size + 1 := (by omega))
               try (have qf : wa.heap.size + 1 < wc.heap.size := (by omega); have qfa : ¬ wa.heap.size + 1 = wc.heap.size := (by omega); have qfb : ¬ wc.heap.size = wa.heap.size + 1 := (by omega); have qfc : ¬ wa.heap.size + 1 = wc.heap.size + 1 := (by omega))))
          all_goals
            go_wp2_with fail
            go_meet
            case rel =>
              go_light
              refine ⟨_, _, v1, v2, rfl, rfl, rfl, ?_, ?_, by omega, by omega, ?_, ?_, And.right (by assumption : _ ∧ Ext wr _)⟩
              · repeat (first | (with_reducible exact Blk.new1) | (with_reducible exact Blk.new2) | (with_reducible exact Blk.new3) | ((with_reducible refine Blk.newAt ?_); first | (with_reducible rfl) | (simp only [World.size_alloc, drew_size, setCell_size]; done)) | (with_reducible refine Blk.alloc1 ?_) | (with_reducible refine Blk.set1 ?_) | (with_reducible refine Blk.setNe ?_ ?_ _) | (with_reducible refine Blk.ext ?_ hec) | (with_reducible refine Blk.ext ?_ hea) | (with_reducible refine Blk.drewB ?_) | ((try simp only [ne_eq, World.size_alloc, drew_size, setCell_size]); omega))
              · repeat (first | (with_reducible exact Blk.new1) | (with_reducible exact Blk.new2) | (with_reducible exact Blk.new3) | ((with_reducible refine Blk.newAt ?_); first | (with_reducible rfl) | (simp only [World.size_alloc, drew_size, setCell_size]; done)) | (with_reducible refine Blk.alloc1 ?_) | (with_reducible refine Blk.set1 ?_) | (with_reducible refine Blk.setNe ?_ ?_ _) | (with_reducible refine Blk.ext ?_ hec) | (with_reducible refine Blk.ext ?_ hea) | (with_reducible refine Blk.drewB ?_) | ((try simp only [ne_eq, World.size_alloc, drew_size, setCell_size]); omega))
              · repeat (first | with_reducible exact t1 | (with_reducible refine TreeAt.ext (Ext.alloc _ _) ?_) | (with_reducible refine TreeAt.slotB (x := .pointer none) ?_ ?_) | (with_reducible exact Blk.new1) | (with_reducible exact Blk.new2) | (with_reducible exact Blk.new3) | ((with_reducible refine Blk.newAt ?_); first | (with_reducible rfl) | (simp only [World.size_alloc, drew_size, setCell_size]; done)) | (with_reducible refine Blk.alloc1 ?_) | (with_reducible refine Blk.set1 ?_) | (with_reducible refine Blk.setNe ?_ ?_ _) | (with_reducible refine Blk.ext ?_ hec) | (with_reducible refine Blk.ext ?_ hea) | (with_reducible refine Blk.drewB ?_) | ((try simp only [ne_eq, World.size_alloc, drew_size, setCell_size]); omega))
              · repeat (first | with_reducible exact t2 | (with_reducible refine TreeAt.ext (Ext.alloc _ _) ?_) | (with_reducible refine TreeAt.slotB (x := .pointer none) ?_ ?_) | (with_reducible exact Blk.new1) | (with_reducible exact Blk.new2) | (with_reducible exact Blk.new3) | ((with_reducible refine Blk.newAt ?_); first | (with_reducible rfl) | (simp only [World.size_alloc, drew_size, setCell_size]; done)) | (with_reducible refine Blk.alloc1 ?_) | (with_reducible refine Blk.set1 ?_) | (with_reducible refine Blk.setNe ?_ ?_ _) | (with_reducible refine Blk.ext ?_ hec) | (with_reducible refine Blk.ext ?_ hea) | (with_reducible refine Blk.drewB ?_) | ((try simp only [ne_eq, World.size_alloc, drew_size, setCell_size]); omega))
        case rest =>
          obtain ⟨g1, g2, v1, v2, rfl, rfl, rfl, hb1, hb2, ng1, ng2, t1, t2, hxr⟩ := hcut
          have hbz := hb.ext hxr
          have hew := he.trans hxr
          obtain ⟨bs1, bs2, _, _⟩ := Tr.split_spec (k := q) HB.out.1
          obtain ⟨sz1, sz2⟩ := split_sz (k := q) HB.out.1
          have le1 := leF_bal bs1
          have le2 := leF_bal bs2
          have hi1 := Tr.ht_le (T.split q).1
          have hi2 := Tr.ht_le (T.split q).2
          have HZ : Hid ((T.split q).1.sz + (T.split q).2.sz = n) := Lib.hid (by rw [sz1, sz2, HB.out.2]; omega)
          have HBS := Lib.hid (And.intro bs1 bs2)
          clear HTv HB c6 d1 hw1 hxd H1 H2 HX hgl hb sz1 sz2 bs1 bs2 hsz
          revert le1 le2 hi1 hi2 t1 t2 HZ HBS
          generalize (T.split q).1 = T1
          generalize (T.split q).2 = T2
          intro t1 t2 le1 le2 hi1 hi2 HZ HBS
          have HE1 := Lib.hid t1
          have HE2 := Lib.hid t2
          have hzs := HZ.out
          obtain ⟨z1, hz1⟩ : ∃ z, z = T1.sz := ⟨_, rfl⟩
          obtain ⟨z2, hz2⟩ : ∃ z, z = T2.sz := ⟨_, rfl⟩
          obtain ⟨h1, hh1⟩ : ∃ z, z = T1.ht := ⟨_, rfl⟩
          obtain ⟨h2, hh2⟩ : ∃ z, z = T2.ht := ⟨_, rfl⟩
          obtain ⟨e1, he1⟩ : ∃ z, z = leF h1 := ⟨_, rfl⟩
          obtain ⟨e2, he2⟩ : ∃ z, z = leF h2 := ⟨_, rfl⟩
          rw [← hz1, ← hh1] at hi1
          rw [← hz2, ← hh2] at hi2
          rw [← hz1, ← hh1, ← he1] at le1
          rw [← hz2, ← hh2, ← he2] at le2
          rw [← hz1, ← hz2] at hzs
          have CL : Hid (∀ (w1 : World) (a' : Option Addr), a' = v1 → Ext wc w1 → Calls Try.prog 13 #[.agg #[.pointer a']] w1 fun e w' => e = .returned (.int .i64 z1) ∧ Ext w1 w') :=
            Lib.hid (fun w1 a' hq he => by rw [hq, hz1]; exact len_ok (TreeAt.ext he HE1.out))
          have DL : Hid (∀ (w1 : World) (a' : Option Addr), a' = v2 → Ext wc w1 → Calls Try.prog 13 #[.agg #[.pointer a']] w1 fun e w' => e = .returned (.int .i64 z2) ∧ Ext w1 w') :=
            Lib.hid (fun w1 a' hq he => by rw [hq, hz2]; exact len_ok (TreeAt.ext he HE2.out))
          have CT : Hid (∀ (w1 : World) (a' : Option Addr), a' = v1 → Ext wc w1 → Calls Try.prog 12 #[.agg #[.pointer a']] w1 fun e w' => e = .returned (.int .i64 h1) ∧ Ext w1 w') :=
            Lib.hid (fun w1 a' hq he => by rw [hq, hh1]; exact tallR_ok (TreeAt.ext he HE1.out))
          have DT : Hid (∀ (w1 : World) (a' : Option Addr), a' = v2 → Ext wc w1 → Calls Try.prog 12 #[.agg #[.pointer a']] w1 fun e w' => e = .returned (.int .i64 h2) ∧ Ext w1 w') :=
            Lib.hid (fun w1 a' hq he => by rw [hq, hh2]; exact tallR_ok (TreeAt.ext he HE2.out))
          have CM : Hid (∀ (w1 : World) (x : Nat), x = h1 → Calls Try.prog 16 #[.int .i64 x] w1 fun e w' => e = .returned (.int .i64 e1) ∧ Ext w1 w') :=
            Lib.hid (fun w1 x hq => by rw [hq, he1]; exact (least_ok h1 w1 (by rw [← he1]; have := HN1.out; omega) (by have := HN1.out; omega)).mono fun _ _ ⟨ha, hb⟩ => ⟨ha, hb ▸ Ext.refl _⟩)
          have DM : Hid (∀ (w1 : World) (x : Nat), x = h2 → Calls Try.prog 16 #[.int .i64 x] w1 fun e w' => e = .returned (.int .i64 e2) ∧ Ext w1 w') :=
            Lib.hid (fun w1 x hq => by rw [hq, he2]; exact (least_ok h2 w1 (by rw [← he2]; have := HN1.out; omega) (by have := HN1.out; omega)).mono fun _ _ ⟨ha, hb⟩ => ⟨ha, hb ▸ Ext.refl _⟩)
          have l1 : decide (z1 < e1) = false := by simpa using le1
          have l2 : decide (z2 < e2) = false := by simpa using le2
          have m1 : ¬ z1 < e1 := by omega
          have m2 : ¬ z2 < e2 := by omega
          have c1 : ∀ i : ExtW wc, i.w.cell? ⟨g1, 0, none⟩ = some (.pointer v1) := fun i => (hb1.ext i.h).cell 0
          have c2 : ∀ i : ExtW wc, i.w.cell? ⟨g2, 0, none⟩ = some (.pointer v2) := fun i => (hb2.ext i.h).cell 0
          clear hz1 hz2 hh1 hh2 he1 he2 t1 t2 hi1 hi2 hzs le1 le2
          go_wp2_with fail
          refine wp_region_ext (by kernel_rfl) (by kernel_rfl) ?_
          repeat
            refine wpQuiet_step (fun K hK => ?_)
            go_simp
            first
              | (refine hK _ ?_; clear hK K)
              | (refine ⟨_, fun _ => rfl, ?_⟩; refine hK _ ?_; clear hK K)
              | (apply Exists.intro
                 refine ⟨fun _ => ?_, hK _ ?_⟩
                 (first
                   | (go_at_call 13; first | exact ext_call (CL.out _ _ (by with_reducible rfl) (ExtW.h _)) | exact ext_call (DL.out _ _ (by with_reducible rfl) (ExtW.h _)))
                   | (go_at_call 12; first | exact ext_call (CT.out _ _ (by with_reducible rfl) (ExtW.h _)) | exact ext_call (DT.out _ _ (by with_reducible rfl) (ExtW.h _)))
                   | (go_at_call 16; first | exact ext_call (CM.out _ _ (by with_reducible rfl)) | exact ext_call (DM.out _ _ (by with_reducible rfl))))
                 clear hK K)
          refine wpQuiet_nil ?_
          rintro _ ⟨i, rfl⟩
          have hb1' := hb1.ext i.h
          have hb2' := hb2.ext i.h
          have hbz' := hbz.ext i.h
          have k1 := hb1'.cell 0
          have k2 := hb2'.cell 0
          simp only [List.getElem?_toArray, List.getElem?_cons_zero, List.getElem?_cons_succ] at k1 k2
          have CJ := Lib.hid (joinR_ok (TreeAt.ext i.h HE2.out) (TreeAt.ext i.h HE1.out) (by have := HZ.out; have := HN1.out; omega) HBS.out.2 HBS.out.1)
          have hei := hew.trans i.h
          clear CL DL CT DT CM DM c1 c2 hb1 hb2 hb1' hb2' hbz hew
          go_wp2_with fail
          refine CJ.out.mono ?_
          rintro e wd ⟨v3, rfl, t3, hed⟩
          have hbq := hbz'.ext hed
          have f6 := hbq.frozen 0
          have c6 := hbq.cell 0
          simp only [List.getElem?_toArray, List.getElem?_cons_zero, List.getElem?_cons_succ] at c6
          have t4 := TreeAt.slot (u := .pointer v3) (by decide) hbq t3
          have hbn : Blk (wd.setCell ⟨w4.heap.size, 0, none⟩ (.pointer v3)) w4.heap.size 26 #[.pointer v3] := by simpa using hbq.set_ 0 (.pointer v3)
          have hen : Ext w (wd.setCell ⟨w4.heap.size, 0, none⟩ (.pointer v3)) := (hei.trans hed).setCell hg0 _
          obtain ⟨bc, lc⟩ := Tr.concat_spec HBS.out.2 HBS.out.1
          have szc : (Tr.concat T2 T1).sz = n := by rw [← Tr.len, lc, List.length_append, Tr.len, Tr.len]; have := HZ.out; omega
          have lec := leF_bal bc
          have hic := Tr.ht_le (Tr.concat T2 T1)
          have HBC := Lib.hid (And.intro bc szc)
          have HT4 := Lib.hid t4
          rw [szc] at lec hic
          clear CJ hbz' hbq hei t3 t4 bc szc lc k1 k2 hed hxr
          revert lec hic HBC HT4
          generalize Tr.concat T2 T1 = T3
          intro lec hic HBC HT4
          obtain ⟨h3, hh3⟩ : ∃ z, z = T3.ht := ⟨_, rfl⟩
          obtain ⟨e3, he3⟩ : ∃ z, z = leF h3 := ⟨_, rfl⟩
          rw [← hh3] at hic
          rw [← hh3, ← he3] at lec
          go_wp2_with fail
          revert hbn hen HT4
          clear f6 c6
          generalize wd.setCell ⟨w4.heap.size, 0, none⟩ (.pointer v3) = wy
          intro hbn hen HT4
          have CL : Hid (∀ (w1 : World), Ext wy w1 → Calls Try.prog 13 #[.agg #[.pointer v3]] w1 fun e w' => e = .returned (.int .i64 n) ∧ Ext w1 w') :=
            Lib.hid (fun w1 he => by rw [← HBC.out.2]; exact len_ok (TreeAt.ext he HT4.out))
          have CT : Hid (∀ (w1 : World), Ext wy w1 → Calls Try.prog 12 #[.agg #[.pointer v3]] w1 fun e w' => e = .returned (.int .i64 h3) ∧ Ext w1 w') :=
            Lib.hid (fun w1 he => by rw [hh3]; exact tallR_ok (TreeAt.ext he HT4.out))
          have CM : Hid (∀ (w1 : World), Calls Try.prog 16 #[.int .i64 h3] w1 fun e w' => e = .returned (.int .i64 e3) ∧ Ext w1 w') :=
            Lib.hid (fun w1 => by rw [he3]; exact (least_ok h3 w1 (by rw [← he3]; have := HN1.out; omega) (by have := HN1.out; omega)).mono fun _ _ ⟨ha, hb⟩ => ⟨ha, hb ▸ Ext.refl _⟩)
          have l3 : decide (n < e3) = false := by simpa using lec
          have m3 : ¬ n < e3 := by omega
          have c3 : ∀ i : ExtW wy, i.w.cell? ⟨w4.heap.size, 0, none⟩ = some (.pointer v3) := fun i => (hbn.ext i.h).cell 0
          clear hh3 he3 hic lec
          refine wp_region_ext (by kernel_rfl) (by kernel_rfl) ?_
          repeat
            refine wpQuiet_step (fun K hK => ?_)
            go_simp
            first
              | (refine hK _ ?_; clear hK K)
              | (refine ⟨_, fun _ => rfl, ?_⟩; refine hK _ ?_; clear hK K)
              | (apply Exists.intro
                 refine ⟨fun _ => ?_, hK _ ?_⟩
                 (first
                   | (go_at_call 13; exact ext_call (CL.out _ (ExtW.h _)))
                   | (go_at_call 12; exact ext_call (CT.out _ (ExtW.h _)))
                   | (go_at_call 16; exact ext_call (CM.out _)))
                 clear hK K)
          refine wpQuiet_nil ?_
          rintro _ ⟨i2, rfl⟩
          have hbr := hbn.ext i2.h
          have her := hen.trans i2.h
          have HTr := Lib.hid (TreeAt.ext i2.h HT4.out)
          clear CL CT CM c3 hbn hen HT4
          go_wp2_with fail
          go_roundw
          case rel => exact ⟨j + 1, v3, T3, by omega, by go_num, hbr, HTr, HBC, her⟩
          case measure => simp [intOf]; omega
      · obtain rfl : j = m := by omega
        have CL := Lib.hid (len_ok HTv.out)
        rw [HB.out.2] at CL
        have b1 : ((n : Int) == (n : Int)) = true := by simp
        go_wp2_with fail
        refine CL.out.mono ?_
        rintro e w5 ⟨rfl, he5⟩
        go_wp2_with fail
        go_ret
        exact ⟨rfl, he.trans he5⟩
end Go.Proofs.Ythljopjpjjaadaa
