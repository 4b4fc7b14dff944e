/-
  paint.Signs: the walk.
-/
import Derived.Test.YthphlghblmindaaPaiJ
import Derived.Test.YthphlghblmindaaTermX
import Derived.Deep.RegionHeld3
namespace Go.Proofs.Ythphlghblmindaa
open Go.RowKit
set_option linter.unusedVariables false
set_option linter.unusedSimpArgs false

/-- More may be held from here on. -/
theorem held_mono {P : Program} {md : Region.Mode} {ops : Array Oper} {Q : Exit → Act → World → Prop} {S S' : World → Prop} (hSS : ∀ w, S' w → S w) : ∀ (fuel : Nat) (listed : Array Bool) (a : Act) (w : World), wpAnyH P md ops Q S' fuel listed a w → wpAnyH P md ops Q S fuel listed a w
  | 0, _, _, _, h => h
  | fuel + 1, _, _, _, h => ⟨h.1, fun i hi => wpOp_mono (fun a' w' h' => ⟨hSS _ h'.1, held_mono hSS fuel _ a' w' h'.2⟩) (h.2 i hi)⟩
/-- A call of a function value by its contract, in a region that draws its order; the operation must be a call of what lies in this slot. -/
theorem step_callv {P : Program} {ops : Array Oper} {o : Oper} {a : Act} {w : World} {K : Act → World → Prop} {Q : Exit → Act → World → Prop} {E : Prop} {ars : Array Operand} {tys : Array TypeId} (hgd : o.guard = none)
    (f : FuncId) (args : Array Value) (t : Tmp) (ho : o.op = .call { callee := .value (.tmp t), args := ars, argTypes := tys }) (hrun : (execOp a.eval o).run P w = .ok (.enter f args) w) (R : Value → World → Prop)
    (hc : Calls P f args w fun e w' => ∃ v, e = .returned v ∧ R v w') (h : ∀ v w', R v w' → K (a.put o.dst v) w') : if Region.wanted o (yielded ops a.tmps) = true then Oper.wp P o a w K Q else E := by
  have hw : Region.wanted o (yielded ops a.tmps) = true := by simp [Region.wanted, hgd]
  rw [if_pos hw]
  unfold Oper.wp
  rw [hrun, Oper.upon_enter]
  refine hc.mono fun e w' hh => ?_
  obtain ⟨v, rfl, hR⟩ := hh
  exact h v w' hR

set_option maxRecDepth 20000 in
set_option maxHeartbeats 2000000 in
theorem begin_ok {w : World} {p2 p3 m d st : Nat} {B : Option Addr} (c3 : w.cell? ⟨p3, 0, none⟩ = some (.slice B m d)) (c2 : w.cell? ⟨p2, 1, none⟩ = some (.int .i64 st)) :
    Calls Try.prog 42 #[.pointer (some ⟨p3, 0, none⟩), .pointer (some ⟨p2, 0, none⟩)] w fun e w' => ∃ g, e = .returned (.pointer (some ⟨g, 0, none⟩)) ∧ w.heap.size ≤ g ∧ JAt w' g B m d (st, []) ∧ Ext w w' := by
  have hx := Lib.hid (Ext.alloc w (.cells #[.slice B m d, .int .i64 (st : Int), .slice none 0 0] 80))
  have hb := Lib.hid (Blk.new w 80 #[.slice B m d, .int .i64 (st : Int), .slice none 0 0])
  go_enter Try.func42, Try.ntmps42
  go_wp2_with fail
  go_ret
  exact ⟨_, rfl, Nat.le_refl _, ⟨none, 0, 0, hb.out, OwnI.nil _ _⟩, hx.out⟩

/-- What Signs answers. -/
def SigIs (w : World) (l : List Int) (e : Ending) (w' : World) : Prop := ∃ S q r, e = .returned (.tuple #[.slice S q r, .int .i64 0]) ∧ OwnI w' w.heap.size S q r l ∧ Ext w w'
def SigNo (w : World) (e : Ending) (w' : World) : Prop := (∃ z : Int, z ≠ 0 ∧ e = .returned (.tuple #[.slice none 0 0, .int .i64 z])) ∧ Ext w w'

set_option maxRecDepth 20000 in
set_option maxHeartbeats 4000000 in
theorem signs_bad {A B : Option Addr} {n c m d : Nat} {a b : List Int} {st at_ : Int} {w : World} (ha : Ints w A n c a) (hb : Ints w B m d b) (hg : ¬ (rowOk a n st ∧ rowOk b m at_ ∧ n = m)) :
    Calls Try.prog 14 #[.agg #[.slice A n c, .int .i64 st], .agg #[.slice B m d, .int .i64 at_]] w (SigNo w) := by
  have hx0 : Ext w ((w.alloc (.cells #[.slice A n c, .int .i64 st] 34)).alloc (.cells #[.slice B m d, .int .i64 at_] 34)) := (Ext.alloc _ _).to_alloc _
  have b2 := (Blk.new w 34 #[.slice A n c, .int .i64 st]).ext (Ext.alloc _ (.cells #[.slice B m d, .int .i64 at_] 34))
  have b3 := Blk.new (w.alloc (.cells #[.slice A n c, .int .i64 st] 34)) 34 #[.slice B m d, .int .i64 at_]
  rw [World.size_alloc] at b3
  have HX := Lib.hid hx0
  have HA := Lib.hid (ha.ext hx0)
  have HB := Lib.hid (hb.ext hx0)
  have hnc := ha.ncap
  have hcm := ha.nmax
  have hmd := hb.ncap
  have hdm := hb.nmax
  unfold maxLen at hcm hdm
  have hall := And.intro b2 (And.intro b3 (And.intro HX (And.intro HA HB)))
  clear hx0 b2 b3 HX HA HB ha hb
  by_cases g1 : rowOk a n st
  · by_cases g2 : rowOk b m at_
    · have hnm : n ≠ m := fun h => hg ⟨g1, g2, h⟩
      have hne : ((n : Int) != (m : Int)) = true := by simp; omega
      have G1 := Lib.hid g1
      have G2 := Lib.hid g2
      clear hg g1 g2 hnm
      go_enter Try.func14, Try.ntmps14
      go_upto_region 1 with fail
      revert hall
      generalize (w.alloc (.cells #[.slice A n c, .int .i64 st] 34)).alloc (.cells #[.slice B m d, .int .i64 at_] 34) = W
      rintro ⟨b2, b3, HX, HA, HB⟩
      obtain ⟨c20, c21⟩ := (And.intro (b2.cell 0) (b2.cell 1) : _ ∧ _)
      obtain ⟨c30, c31⟩ := (And.intro (b3.cell 0) (b3.cell 1) : _ ∧ _)
      simp only [List.getElem?_toArray, List.getElem?_cons_zero, List.getElem?_cons_succ] at c20 c21 c30 c31
      have HC1 := Lib.hid (check_ok HA.out G1.out.2.2.2.2 G1.out.1 G1.out.2.1 G1.out.2.2.1 G1.out.2.2.2.1)
      go_wp2_with fail
      refine HC1.out.mono ?_
      rintro e w1 ⟨rfl, he1⟩
      have HC2 := Lib.hid (check_ok (HB.out.ext he1) G2.out.2.2.2.2 G2.out.1 G2.out.2.1 G2.out.2.2.1 G2.out.2.2.2.1)
      have c20 := he1.cell c20
      have c30 := he1.cell c30
      have c31 := he1.cell c31
      clear HC1
      go_wp2_with fail
      refine HC2.out.mono ?_
      rintro e w2 ⟨rfl, he2⟩
      have c20 := he2.cell c20
      have c30 := he2.cell c30
      clear HC2
      go_wp2_with fail
      go_ret2
      exact ⟨⟨1, by decide, rfl⟩, HX.out.trans (he1.trans he2)⟩
    · have G1 := Lib.hid g1
      have G2 := Lib.hid g2
      clear hg g1 g2
      go_enter Try.func14, Try.ntmps14
      go_upto_region 1 with fail
      revert hall
      generalize (w.alloc (.cells #[.slice A n c, .int .i64 st] 34)).alloc (.cells #[.slice B m d, .int .i64 at_] 34) = W
      rintro ⟨b2, b3, HX, HA, HB⟩
      obtain ⟨c20, c21⟩ := (And.intro (b2.cell 0) (b2.cell 1) : _ ∧ _)
      obtain ⟨c30, c31⟩ := (And.intro (b3.cell 0) (b3.cell 1) : _ ∧ _)
      simp only [List.getElem?_toArray, List.getElem?_cons_zero, List.getElem?_cons_succ] at c20 c21 c30 c31
      have HC1 := Lib.hid (check_ok HA.out G1.out.2.2.2.2 G1.out.1 G1.out.2.1 G1.out.2.2.1 G1.out.2.2.2.1)
      go_wp2_with fail
      refine HC1.out.mono ?_
      rintro e w1 ⟨rfl, he1⟩
      have HC2 := Lib.hid (check_bad (HB.out.ext he1) G2.out)
      have c30 := he1.cell c30
      have c31 := he1.cell c31
      clear HC1
      go_wp2_with fail
      refine HC2.out.mono ?_
      rintro e w2 ⟨he, he2⟩
      clear HC2
      rcases he with rfl | rfl
      · go_wp2_with fail
        go_ret2
        exact ⟨⟨1, by decide, rfl⟩, HX.out.trans (he1.trans he2)⟩
      · go_wp2_with fail
        go_ret2
        exact ⟨⟨4, by decide, rfl⟩, HX.out.trans (he1.trans he2)⟩
  · have G1 := Lib.hid g1
    clear hg g1
    go_enter Try.func14, Try.ntmps14
    go_upto_region 1 with fail
    revert hall
    generalize (w.alloc (.cells #[.slice A n c, .int .i64 st] 34)).alloc (.cells #[.slice B m d, .int .i64 at_] 34) = W
    rintro ⟨b2, b3, HX, HA, HB⟩
    obtain ⟨c20, c21⟩ := (And.intro (b2.cell 0) (b2.cell 1) : _ ∧ _)
    simp only [List.getElem?_toArray, List.getElem?_cons_zero, List.getElem?_cons_succ] at c20 c21
    have HC1 := Lib.hid (check_bad HA.out G1.out)
    go_wp2_with fail
    refine HC1.out.mono ?_
    rintro e w1 ⟨he, he1⟩
    clear HC1
    rcases he with rfl | rfl
    · go_wp2_with fail
      go_ret2
      exact ⟨⟨1, by decide, rfl⟩, HX.out.trans he1⟩
    · go_wp2_with fail
      go_ret2
      exact ⟨⟨4, by decide, rfl⟩, HX.out.trans he1⟩
end Go.Proofs.Ythphlghblmindaa
