/-
  The walk of MotionIn.
-/
import Derived.Test.YtkjlgfokgpdliaaMotU
namespace Go.Proofs.Ytkjlgfokgpdliaa
open Go.RowKit
set_option linter.unusedVariables false
set_option linter.unusedSimpArgs false

set_option maxRecDepth 100000 in
set_option maxHeartbeats 4000000 in
theorem motionIn_walk {A : Option Addr} {n c : Nat} {l : List Int} {k key cnt arg : Int} {w : World} (hl : Ints w A n c l) (wl : ∀ x ∈ l, (Lit.int .i64 x).wf = true) :
    Calls Try.prog 8 #[.slice A n c, .int .i64 k, .agg #[.int .i64 key, .int .i64 cnt, .int .i64 arg]] w fun e w' => e = .returned (.bool true) ∧ Ext w w' := by
  have hnc := hl.ncap
  have hcm := hl.nmax
  have hlen := Lib.hid hl.len
  have WL := Lib.hid wl
  unfold maxLen at hcm
  clear wl
  have hx := Ext.alloc w (.cells #[.int .i64 key, .int .i64 cnt, .int .i64 arg] 42)
  have hb := Blk.new w 42 #[.int .i64 key, .int .i64 cnt, .int .i64 arg]
  have hO := Lib.hid (of_ok "ab".toUTF8 (w.alloc (.cells #[.int .i64 key, .int .i64 cnt, .int .i64 arg] 42)) (by decide +kernel))
  have e0 : "ab".toUTF8 = ⟨#[97, 98]⟩ := by decide +kernel
  rw [e0] at hO
  clear e0
  go_enter Try.func8, Try.ntmps8
  go_wp2_with fail
  refine hO.out.mono ?_
  rintro e w1 ⟨A1, c1, rfl, hA1, he1⟩
  clear hO
  have h2 : ByteArray.size ⟨#[97, 98]⟩ = 2 := by decide +kernel
  rw [h2] at hA1 ⊢
  clear h2
  go_wp2_with fail
  have wA : ∀ x ∈ chars ⟨#[97, 98]⟩, (Lit.int .i64 x).wf = true := by
    intro x hx
    unfold chars at hx
    obtain ⟨b, _, rfl⟩ := List.mem_map.1 hx
    have := b.toNat_lt
    simp [Lit.wf, IntKind.min, IntKind.max, IntKind.signed, IntKind.bits]
    omega
  have HR := Lib.hid (mrange_ok (k := 0) (key := 36) (cnt := 0) (arg := 0) hA1.ints wA)
  clear wA
  refine HR.out.mono ?_
  rintro e w2 ⟨hp, he2⟩
  have hE := lit_range hp
  subst hE
  have hxe := (hx.trans he1).trans he2
  have hb2 := (hb.ext he1).ext he2
  have c0 := hb2.cell 0
  have c1 := hb2.cell 1
  have c2 := hb2.cell 2
  simp only [List.getElem?_toArray, List.getElem?_cons_zero, List.getElem?_cons_succ] at c0 c1 c2
  have HG := Lib.hid (mgo_all (k := k) (key := key) (cnt := cnt) (arg := arg) (op := false) (hl.ext hxe) WL.out)
  have HRR := Lib.hid (fun (w3 : World) (he3 : Ext w2 w3) => mrange_ok (k := k) (key := key) (cnt := cnt) (arg := arg) ((hl.ext hxe).ext he3) WL.out)
  clear HR hp hA1 hx he1 he2 hb hl WL
  go_wp2_with fail
  refine HG.out.mono ?_
  rintro e w3 ⟨hp, he3⟩
  have hxf := hxe.trans he3
  have hb3 := hb2.ext he3
  have d0 := hb3.cell 0
  have d1 := hb3.cell 1
  have d2 := hb3.cell 2
  simp only [List.getElem?_toArray, List.getElem?_cons_zero, List.getElem?_cons_succ] at d0 d1 d2
  have HRF := Lib.hid (HRR.out _ he3)
  rcases go_says hlen.out hp with ⟨er, i, her, rfl⟩ | ⟨a, i, ha, rfl⟩
  · clear hp HG HRR c0 c1 c2 hb2 hb3 hxe he3
    go_wp2_with fail
    refine HRF.out.mono ?_
    rintro e w4 ⟨hp, he4⟩
    have hxg := hxf.trans he4
    rcases range_says hp with ⟨er2, her2, rfl⟩ | ⟨lo, hi, b1, b2, b3, b4, rfl⟩
    · clear hp HRF
      go_wp2_with fail
      all_goals
        go_ret
        exact ⟨rfl, hxg⟩
    · clear hp HRF
      go_wp2_with fail
      all_goals
        go_ret
        exact ⟨by simp, hxg⟩
  · clear hp HG HRR c0 c1 c2 hb2 hb3 hxe he3
    have hm : (a : Int) ≤ if (1 : Int) < n then (n : Int) - 1 else 0 := by split <;> omega
    go_wp2_with fail
    all_goals first
      | (exfalso; omega)
      | (refine HRF.out.mono ?_
         rintro e w4 ⟨hp, he4⟩
         have hxg := hxf.trans he4
         rcases range_says hp with ⟨er2, her2, rfl⟩ | ⟨lo, hi, b1, b2, b3, b4, rfl⟩
         · clear hp HRF
           go_wp2_with fail
           all_goals
             go_ret
             exact ⟨rfl, hxg⟩
         · clear hp HRF
           go_wp2_with fail
           all_goals
             go_ret
             exact ⟨by simp, hxg⟩)
end Go.Proofs.Ytkjlgfokgpdliaa
