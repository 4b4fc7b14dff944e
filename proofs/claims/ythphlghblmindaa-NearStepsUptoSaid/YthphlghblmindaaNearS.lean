/-
  The walk of the statement that one step is no farther than one, and that what stands on both sides makes no difference.
-/
import Derived.Test.YthphlghblmindaaNearP
import Derived.Test.YthphlghblmindaaIns
import Derived.Test.YthphlghblmindaaClone
import Derived.Test.YthphlghblmindaaConcB
import Derived.Test.YthphlghblmindaaRest
namespace Go.Proofs.Ythphlghblmindaa
open Go.RowKit
set_option linter.unusedVariables false

theorem ListsN.three {w : World} {A B C : Option Addr} {n c m d k f : Nat} {l l' l'' : List Int} (hA : Ints w A n c l) (hA0 : A = none → c = 0) (hB : Ints w B m d l') (hB0 : B = none → d = 0) (hC : Ints w C k f l'') (hC0 : C = none → f = 0) : ListsN w [.slice A n c, .slice B m d, .slice C k f] [l, l', l''] :=
  ⟨rfl, fun i hi => by
    match i, hi with
    | 0, _ => exact ⟨A, n, c, rfl, hA, hA0⟩
    | 1, _ => exact ⟨B, m, d, rfl, hB, hB0⟩
    | 2, _ => exact ⟨C, k, f, rfl, hC, hC0⟩⟩
theorem ab_far : farV (chars ⟨#[97, 98]⟩) (chars ⟨#[98]⟩) = 1 := by
  unfold farV
  rw [if_pos (by decide)]
  simp [dist, chars, lev]

theorem packD {w : World} {A : Option Addr} {n c : Nat} {a b : List Int} (hb : Ints w A n c b) (hd : dist a b ≤ 1) : ∃ b, Ints w A n c b ∧ dist a b ≤ 1 := ⟨b, hb, hd⟩

set_option maxRecDepth 20000 in
set_option maxHeartbeats 4000000 in
theorem nearSteps_walk {a p q : List Int} {A P Q : Option Addr} {n c np cp nq cq : Nat} {at_ x how : Int} {w : World} (ha : Ints w A n c a) (hA : A = none → c = 0) (hp : Ints w P np cp p) (hP : P = none → cp = 0) (hq : Ints w Q nq cq q) (hQ : Q = none → cq = 0) (hn : n ≤ 1048576) (hnp : np ≤ 1048576) (hnq : nq ≤ 1048576) :
    Calls Try.prog 6 #[.slice A n c, .int .i64 at_, .int .i64 x, .int .i64 how, .slice P np cp, .slice Q nq cq] w fun e w' => e = .returned (.bool true) ∧ Ext w w' := by
  have hab := ab_far
  have t1 : how.tmod 3 < 3 := Int.tmod_lt_of_pos how (by omega)
  have t2 : -3 < how.tmod 3 := by have := Int.lt_tmod_of_pos how (show (0 : Int) < 3 by omega); omega
  obtain ⟨k, hk⟩ : ∃ k, k = restF at_ (n + 1) := ⟨_, rfl⟩
  have hkn : k ≤ n := by have := restF_lt (a := at_) (b := n + 1) (by omega); omega
  have hR : ∀ W : World, Calls Try.prog 29 #[.int .i64 at_, .int .i64 ((n : Int) + 1)] W fun e w' => e = .returned (.int .i64 k) ∧ w' = W := fun W => by
    have := rest_ok at_ (n + 1) W (by omega) (by omega)
    rw [← hk] at this
    exact this
  have HR := Lib.hid hR
  have HC : Hid (∀ (W : World) (B : Option Addr) (m d : Nat) (b : List Int), Ext w W → Ints W B m d b → (B = none → d = 0) → m ≤ n + 1 → Calls Try.prog 32 #[.slice (some ⟨W.heap.size, 0, none⟩) 3 3] (W.alloc (.cells #[.slice P np cp, .slice B m d, .slice Q nq cq] 22)) fun e w' => ∃ C m1 f1 r, e = .returned (.slice C m1 f1) ∧ Hid (r = p ++ b ++ q) ∧ Ints w' C m1 f1 r ∧ Ext W w') := Lib.hid (fun W B m d b he hb hB hm => by
    have hx := Ext.alloc W (.cells #[.slice P np cp, .slice B m d, .slice Q nq cq] 22)
    have l1 := hp.len
    have l2 := hq.len
    have l3 := hb.len
    refine (concat_big (Rd.litAt W 22 [.slice P np cp, .slice B m d, .slice Q nq cq] rfl rfl (show 3 ≤ 1000 by omega)) (ListsN.three (hp.ext (he.trans hx)) hP (hb.ext hx) hB (hq.ext (he.trans hx)) hQ) rfl (by simp; omega)).mono ?_
    rintro e w' ⟨C, m1, f1, rfl, ho, he'⟩
    have e9 : [p, b, q].flatten = p ++ b ++ q := by simp
    rw [e9] at ho
    exact ⟨C, m1, f1, _, rfl, Lib.hid rfl, ho.ints, hx.trans he'⟩)
  have hal := Lib.hid ha.len
  clear hR hk
  go_enter Try.func6, Try.ntmps6
  go_wp2_with fail
  refine (of_ok _ _ (by decide)).mono ?_
  rintro e w1 ⟨A1, c1, rfl, ho1, he1⟩
  go_wp2_with fail
  refine (of_ok _ _ (by decide)).mono ?_
  rintro e w2 ⟨A2, c2, rfl, ho2, he2⟩
  go_wp2_with fail
  refine (far_ok (ho1.ints.ext he2) ho2.ints).mono ?_
  rintro e w3 ⟨rfl, he3⟩
  have e3 : Ext w w3 := he1.trans (he2.trans he3)
  clear he1 he2 he3 ho1 ho2
  go_wp2_with fail
  refine (HR.out _).mono ?_
  rintro e _ ⟨rfl, rfl⟩
  go_wp2_with fail
  refine (clone_ok (ha.ext e3) hA (by omega)).mono ?_
  rintro e w4 ⟨B4, d4, rfl, ho4, hb4, he4⟩
  have hx4 := Ext.alloc w4 (.cells #[.int .i64 x] 3)
  go_wp2_with fail
  refine (ins_ok (ho4.ext hx4) (Nat.le_trans he4.hsize hx4.hsize) hb4 hkn (by omega) (heap_alloc_new w4 _) (fun h => absurd (Own.blk ho4 _ h).2 (Nat.lt_irrefl _))).mono ?_
  rintro e w5 ⟨B5, d5, rfl, hb, hb5⟩
  have eW : Ext w w5 := e3.trans (Below.trans (he4.trans hx4) hb5)
  clear hx4 hb4 ho4 he4 hb5
  by_cases hlt : k < n
  · have hlt' : (k : Int) < (n : Int) := by omega
    by_cases r1 : how.tmod 3 = 1
    · clear hb
      go_wp2_with fail
      refine (clone_ok (ha.ext eW) hA (by omega)).mono ?_
      rintro e w6 ⟨B6, d6, rfl, ho6, hb6, he6⟩
      go_wp2_with fail
      refine (del_ok ho6 hlt).mono ?_
      rintro e w7 ⟨B7, d7, rfl, hb, hb7⟩
      have eW : Ext w w7 := eW.trans (Below.trans he6 hb7)
      clear ho6 hb6 he6 hb7
      have hpk := packD hb (dist_del (by rw [hal.out]; exact hlt))
      clear hb
      obtain ⟨b, hb, hd⟩ := hpk
      go_wp2_with fail
      refine (HC.out w7 A n c a eW (ha.ext eW) hA (by omega)).mono ?_
      rintro e w8 ⟨C1, m1, f1, u1, rfl, q1, hc1, he8⟩
      go_wp2_with fail
      refine (HC.out w8 (some B7) _ _ _ (eW.trans he8) (hb.ext he8) (fun h => by cases h) (by omega)).mono ?_
      rintro e w9 ⟨C2, m2, f2, u2, rfl, q2, hc2, he9⟩
      go_wp2_with fail
      refine (far_ok (hc1.ext he9) hc2).mono ?_
      rintro e w10 ⟨rfl, he10⟩
      have e10 := eW.trans (he8.trans (he9.trans he10))
      have hB10 := hb.ext (he8.trans (he9.trans he10))
      have hal' := hal.out
      clear hc1 hc2 he8 he9 he10 HC
      go_wp2_with fail
      refine (far_ok (ha.ext e10) hB10).mono ?_
      rintro e w11 ⟨rfl, he11⟩
      have e11 := e10.trans he11
      have hl := near_law (p := p) (q := q) hd
      rw [← q1.out, ← q2.out] at hl
      clear q1 q2
      clear hd hB10 e10 he11 hb eW hp hq ha
      generalize farV u1 u2 = u at hl ⊢
      generalize farV a b = v at hl ⊢
      have HL := Lib.hid hl
      clear hl
      go_wp2_with fail
      all_goals
        go_ret
        refine ⟨ret_bool ?_, e11⟩
        have hl := HL.out
        simp
        try omega
    by_cases r2 : how.tmod 3 = 2
    · clear hb
      go_wp2_with fail
      refine (clone_ok (ha.ext eW) hA (by omega)).mono ?_
      rintro e w6 ⟨B6, d6, rfl, ho6, hb6, he6⟩
      obtain ⟨g, rfl⟩ : ∃ g, B6 = some ⟨g, 0, none⟩ := by
        rcases ho6.2 with ⟨hv, h0⟩ | ⟨g, cap, cur, hv, _⟩
        · omega
        · injection hv with e1; exact ⟨g, e1⟩
      have c2 : w6.cell? ⟨g, k, none⟩ = some (.int .i64 (gI a k)) := by
        have := World.ownsRow.cellAt ho6 k (by omega)
        rw [this]
        simp [gI, show k < a.length by rw [hal.out]; exact hlt]
      have f2 : w6.frozen? ⟨g, k, none⟩ = false := World.ownsRow.frozenAt ho6 k
      go_wp2_with fail
      have hb : Ints (w6.setCell ⟨g, k, none⟩ (.int .i64 x)) (some ⟨g, 0, none⟩) n d6 (a.take k ++ [x] ++ a.drop (k + 1)) := by
        have := (World.ownsRow.stored ho6 k (.int .i64 x)).1
        rw [← List.map_set, List.set_eq_take_append_cons_drop, if_pos (by rw [hal.out]; exact hlt)] at this
        rw [List.append_assoc]
        exact OwnI.ints this
      have eW : Ext w (w6.setCell ⟨g, k, none⟩ (.int .i64 x)) := (eW.trans he6).setCell (Nat.le_trans eW.hsize (Own.blk ho6 g rfl).1) _
      clear ho6 hb6 he6 c2 f2
      have hpk := packD hb (dist_set (by rw [hal.out]; exact hlt) x)
      clear hb
      obtain ⟨b, hb, hd⟩ := hpk
      have hsz : (w6.setCell ⟨g, k, none⟩ (.int .i64 x)).heap.size = w6.heap.size := by simp [World.setCell]
      rw [← hsz]
      clear hsz
      generalize w6.setCell ⟨g, k, none⟩ (.int .i64 x) = w7 at hb eW ⊢
      go_wp2_with fail
      refine (HC.out w7 A n c a eW (ha.ext eW) hA (by omega)).mono ?_
      rintro e w8 ⟨C1, m1, f1, u1, rfl, q1, hc1, he8⟩
      go_wp2_with fail
      refine (HC.out w8 (some ⟨g, 0, none⟩) _ _ _ (eW.trans he8) (hb.ext he8) (fun h => by cases h) (by omega)).mono ?_
      rintro e w9 ⟨C2, m2, f2, u2, rfl, q2, hc2, he9⟩
      go_wp2_with fail
      refine (far_ok (hc1.ext he9) hc2).mono ?_
      rintro e w10 ⟨rfl, he10⟩
      have e10 := eW.trans (he8.trans (he9.trans he10))
      have hB10 := hb.ext (he8.trans (he9.trans he10))
      have hal' := hal.out
      clear hc1 hc2 he8 he9 he10 HC
      go_wp2_with fail
      refine (far_ok (ha.ext e10) hB10).mono ?_
      rintro e w11 ⟨rfl, he11⟩
      have e11 := e10.trans he11
      have hl := near_law (p := p) (q := q) hd
      rw [← q1.out, ← q2.out] at hl
      clear q1 q2
      clear hd hB10 e10 he11 hb eW hp hq ha
      generalize farV u1 u2 = u at hl ⊢
      generalize farV a b = v at hl ⊢
      have HL := Lib.hid hl
      clear hl
      go_wp2_with fail
      all_goals
        go_ret
        refine ⟨ret_bool ?_, e11⟩
        have hl := HL.out
        simp
        try omega
    have hpk := packD hb (dist_ins a k x)
    clear hb
    obtain ⟨b, hb, hd⟩ := hpk
    go_wp2_with fail
    refine (HC.out w5 A n c a eW (ha.ext eW) hA (by omega)).mono ?_
    rintro e w8 ⟨C1, m1, f1, u1, rfl, q1, hc1, he8⟩
    go_wp2_with fail
    refine (HC.out w8 (some B5) _ _ _ (eW.trans he8) (hb.ext he8) (fun h => by cases h) (by omega)).mono ?_
    rintro e w9 ⟨C2, m2, f2, u2, rfl, q2, hc2, he9⟩
    go_wp2_with fail
    refine (far_ok (hc1.ext he9) hc2).mono ?_
    rintro e w10 ⟨rfl, he10⟩
    have e10 := eW.trans (he8.trans (he9.trans he10))
    have hB10 := hb.ext (he8.trans (he9.trans he10))
    have hal' := hal.out
    clear hc1 hc2 he8 he9 he10 HC
    go_wp2_with fail
    refine (far_ok (ha.ext e10) hB10).mono ?_
    rintro e w11 ⟨rfl, he11⟩
    have e11 := e10.trans he11
    have hl := near_law (p := p) (q := q) hd
    rw [← q1.out, ← q2.out] at hl
    clear q1 q2
    clear hd hB10 e10 he11 hb eW hp hq ha
    generalize farV u1 u2 = u at hl ⊢
    generalize farV a b = v at hl ⊢
    have HL := Lib.hid hl
    clear hl
    go_wp2_with fail
    all_goals
      go_ret
      refine ⟨ret_bool ?_, e11⟩
      have hl := HL.out
      simp
      try omega
  have hge : ¬ (k : Int) < (n : Int) := by omega
  have hpk := packD hb (dist_ins a k x)
  clear hb
  obtain ⟨b, hb, hd⟩ := hpk
  go_wp2_with fail
  refine (HC.out w5 A n c a eW (ha.ext eW) hA (by omega)).mono ?_
  rintro e w8 ⟨C1, m1, f1, u1, rfl, q1, hc1, he8⟩
  go_wp2_with fail
  refine (HC.out w8 (some B5) _ _ _ (eW.trans he8) (hb.ext he8) (fun h => by cases h) (by omega)).mono ?_
  rintro e w9 ⟨C2, m2, f2, u2, rfl, q2, hc2, he9⟩
  go_wp2_with fail
  refine (far_ok (hc1.ext he9) hc2).mono ?_
  rintro e w10 ⟨rfl, he10⟩
  have e10 := eW.trans (he8.trans (he9.trans he10))
  have hB10 := hb.ext (he8.trans (he9.trans he10))
  have hal' := hal.out
  clear hc1 hc2 he8 he9 he10 HC
  go_wp2_with fail
  refine (far_ok (ha.ext e10) hB10).mono ?_
  rintro e w11 ⟨rfl, he11⟩
  have e11 := e10.trans he11
  have hl := near_law (p := p) (q := q) hd
  rw [← q1.out, ← q2.out] at hl
  clear q1 q2
  clear hd hB10 e10 he11 hb eW hp hq ha
  generalize farV u1 u2 = u at hl ⊢
  generalize farV a b = v at hl ⊢
  have HL := Lib.hid hl
  clear hl
  go_wp2_with fail
  all_goals
    go_ret
    refine ⟨ret_bool ?_, e11⟩
    have hl := HL.out
    simp
    try omega
end Go.Proofs.Ythphlghblmindaa
