/-
  The walk of the statement that what is ranged over are the numbers, in order, as long as is asked for.
-/
import Derived.Test.YtbfamaccnjnfpaaEaL
import Derived.Test.YtbfamaccnjnfpaaEq
import Derived.Test.YtbfamaccnjnfpaaPush
import Derived.Deep.RegionLaw
import Derived.Maps.AppendAt
import Derived.RangeFuncBox
namespace Go.Proofs.Ytbfamaccnjnfpaa
open Go.RowKit
set_option linter.unusedVariables false
set_option linter.unusedSimpArgs false
attribute [local go_sem] Oper.semAt_some

theorem rop56 : (ropF [5, 6]).toL = [5, 6] := by
  unfold ropF
  rw [if_pos (by decide)]
  exact (build_spec _ _ (Nat.le_refl _)).2

theorem ea_start (w : World) (most : Int) : Ext w ((((w.alloc (.cells #[.int .i64 most] 3)).alloc (.cells #[.bool false] 4)).alloc (.cells #[.int .i64 0] 3)).alloc (.cells #[.int .i64 5, .int .i64 6] 3)) ∧ Blk ((((w.alloc (.cells #[.int .i64 most] 3)).alloc (.cells #[.bool false] 4)).alloc (.cells #[.int .i64 0] 3)).alloc (.cells #[.int .i64 5, .int .i64 6] 3)) w.heap.size 3 #[.int .i64 most] ∧ Blk ((((w.alloc (.cells #[.int .i64 most] 3)).alloc (.cells #[.bool false] 4)).alloc (.cells #[.int .i64 0] 3)).alloc (.cells #[.int .i64 5, .int .i64 6] 3)) (w.heap.size + 1) 4 #[.bool false] ∧ Blk ((((w.alloc (.cells #[.int .i64 most] 3)).alloc (.cells #[.bool false] 4)).alloc (.cells #[.int .i64 0] 3)).alloc (.cells #[.int .i64 5, .int .i64 6] 3)) (w.heap.size + 1 + 1) 3 #[.int .i64 0] ∧ Ints ((((w.alloc (.cells #[.int .i64 most] 3)).alloc (.cells #[.bool false] 4)).alloc (.cells #[.int .i64 0] 3)).alloc (.cells #[.int .i64 5, .int .i64 6] 3)) (some ⟨w.heap.size + 1 + 1 + 1, 0, none⟩) 2 2 [5, 6] := by
  refine ⟨(((Ext.alloc w _).to_alloc _).to_alloc _).to_alloc _, Blk.ext (Blk.new w _ _) (((Ext.alloc _ _).to_alloc _).to_alloc _), ?_, ?_, ?_⟩
  · have := Blk.ext (Blk.new (w.alloc (.cells #[.int .i64 most] 3)) 4 #[.bool false]) ((Ext.alloc ((w.alloc (.cells #[.int .i64 most] 3)).alloc (.cells #[.bool false] 4)) (.cells #[.int .i64 0] 3)).to_alloc (.cells #[.int .i64 5, .int .i64 6] 3))
    simpa using this
  · have := Blk.ext (Blk.new ((w.alloc (.cells #[.int .i64 most] 3)).alloc (.cells #[.bool false] 4)) 3 #[.int .i64 0]) (Ext.alloc (((w.alloc (.cells #[.int .i64 most] 3)).alloc (.cells #[.bool false] 4)).alloc (.cells #[.int .i64 0] 3)) (.cells #[.int .i64 5, .int .i64 6] 3))
    simpa using this
  · have h := Blk.new (((w.alloc (.cells #[.int .i64 most] 3)).alloc (.cells #[.bool false] 4)).alloc (.cells #[.int .i64 0] 3)) 3 #[.int .i64 5, .int .i64 6]
    have h2 : Blk ((((w.alloc (.cells #[.int .i64 most] 3)).alloc (.cells #[.bool false] 4)).alloc (.cells #[.int .i64 0] 3)).alloc (.cells #[.int .i64 5, .int .i64 6] 3)) (w.heap.size + 1 + 1 + 1) 3 (([5, 6] : List Int).map (Value.int .i64)).toArray := by simpa using h
    exact Blk.ints h2 rfl (by unfold maxLen; omega)

/-- What the second loop holds: the numbers that have come, as many as were asked for at the most. -/
structure GotAt (w w4 : World) (b1 b3 : Nat) (most : Int) (U : AT) (p : List Int) (W : World) : Prop where
  got : ∃ B d, Blk W b3 22 #[.slice B p.length d] ∧ OwnI W (w4.heap.size + 6) B p.length d p
  most_ : Blk W w.heap.size 3 #[.int .i64 most]
  res : Blk W (w.heap.size + 1) 4 #[.bool false]
  ext : Ext w W
  mark : W.heap[b1]? = some (.deferred (some []))
  mem : InMem W w4.heap.size U
  size : w4.heap.size ≤ W.heap.size
  le : (p.length : Int) ≤ max 0 most
theorem ea_end {w w5 : World} {d1 d2 : Nat} (hb : Blk w5 (w.heap.size + 1) 4 #[.bool false]) (hx : Ext w w5) (h1 : w5.heap[d1]? = some (.deferred (some []))) (h2 : w5.heap[d2]? = some (.deferred (some []))) (hn1 : w.heap.size + 1 < d1) (hn2 : w.heap.size + 1 < d2) (hne : d1 ≠ d2) :
    (w5.setCell ⟨w.heap.size + 1, 0, none⟩ (.bool true)).heap[d2]? = some (.deferred (some [])) ∧ ((w5.setCell ⟨w.heap.size + 1, 0, none⟩ (.bool true)).putObj d2 (.deferred none)).heap[d1]? = some (.deferred (some [])) ∧
    (((w5.setCell ⟨w.heap.size + 1, 0, none⟩ (.bool true)).putObj d2 (.deferred none)).putObj d1 (.deferred none)).cell? ⟨w.heap.size + 1, 0, none⟩ = some (.bool true) ∧
    Ext w (((w5.setCell ⟨w.heap.size + 1, 0, none⟩ (.bool true)).putObj d2 (.deferred none)).putObj d1 (.deferred none)) := by
  have e2 := (Below.heap_setCell w5 ⟨w.heap.size + 1, 0, none⟩ (.bool true) d2 (by show d2 ≠ w.heap.size + 1; omega)).trans h2
  have e1 := (Below.heap_setCell w5 ⟨w.heap.size + 1, 0, none⟩ (.bool true) d1 (by show d1 ≠ w.heap.size + 1; omega)).trans h1
  have hxs := hx.setCell (p := ⟨w.heap.size + 1, 0, none⟩) (show w.heap.size ≤ w.heap.size + 1 by omega) (.bool true)
  have hbs := hb.set_ 0 (.bool true)
  generalize w5.setCell ⟨w.heap.size + 1, 0, none⟩ (.bool true) = W5 at *
  have hx2 := Below.grown hxs (putObj_grown W5 d2 (.deferred none)) hxs.size (fun k e => by injection e with e; omega)
  have hx1 := Below.grown hx2 (putObj_grown (W5.putObj d2 (.deferred none)) d1 (.deferred none)) hx2.size (fun k e => by injection e with e; omega)
  refine ⟨e2, (World.putObj_heap_other hne).trans e1, ?_, hx1⟩
  have h := ((hbs.grown (putObj_grown W5 d2 (.deferred none)) (fun e => by injection e with e; omega)).grown (putObj_grown (W5.putObj d2 (.deferred none)) d1 (.deferred none)) (fun e => by injection e with e; omega)).cell 0
  simpa using h
/-- What follows where nothing panics. -/
def calmly (K : Act → World → Prop) : Exit → Act → World → Prop
  | .normal, a, w => K a w
  | _, _, _ => False
theorem wp_calm {P : Program} {c : Code} {K : Act → World → Prop} {Q : Exit → Act → World → Prop} {a : Act} {w : World} (h : c.wp P (calmly K) a w) : c.wp P (Exit.then K Q) a w :=
  wp_mono h fun e a w he => by
    cases e with
    | normal => exact he
    | _ => exact he.elim
theorem InMem.grownO {w w' : World} {B : Nat} {row : Option Nat} (hg : w.grownBy w' row) (hq : ∀ k, row = some k → B ≤ k) : ∀ {T : AT}, InMem w B T → InMem w' B T
  | .nil, _ => trivial
  | .node g l c r, ⟨h1, h2, h3, h4⟩ => ⟨h1, h2.grown hg (fun e => by have := hq _ e.symm; omega), InMem.grownO hg hq h3, InMem.grownO hg hq h4⟩
theorem GotAt.minds {w w4 : World} {b1 b3 : Nat} {most : Int} {U : AT} (h1 : b1 < w4.heap.size) (h3 : b3 < w4.heap.size) (hw : w.heap.size + 1 < w4.heap.size) : Minds w4.heap.size (GotAt w w4 b1 b3 most U) := by
  rintro p W W' q h hg hq1 hq2
  obtain ⟨⟨B, d, g1, g2⟩, g3, g4, g5, g6, g7, g8, g9⟩ := h
  refine ⟨⟨B, d, g1.grown hg (fun e => by injection e with e; omega), Own.kept g2 hg ?_⟩, g3.grown hg (fun e => by injection e with e; omega), g4.grown hg (fun e => by injection e with e; omega), Below.grown g5 hg g5.size (fun k e => by injection e with e; omega),
    (hg.block _ (Array.getElem?_eq_some_iff.1 g6).1 (fun e => by injection e with e; omega)).trans g6, g7.grown hg hq1, Nat.le_trans g8 hg.size, g9⟩
  cases hb : (Value.slice B p.length d).ownBlock with
  | none => exact .inl rfl
  | some k => exact .inr (fun e => by injection e with e; have := (Own.blk g2 k hb).1; omega)
theorem leaves_mark {P : Program} {fn : Func} {tmps : Array Value} {R : Ending → World → Prop} {ds : List Deferred} {W : World} {D : Nat} (hD : W.heap[D]? = some (.deferred (some []))) (h : LeavesInM Fence.wide 3 P fn tmps R ds .returning (W.putObj D (.deferred none))) :
    LeavesInM Fence.wide 3 P fn tmps R ({ target := .collected D, args := #[] } :: ds) .returning W := ⟨by simp, .inl ⟨D, _, rfl, run_takeDeferred hD, h⟩⟩

set_option maxRecDepth 20000 in
set_option maxHeartbeats 4000000 in
theorem ropeEach_walk {l : List Int} {A : Option Addr} {n c : Nat} {most : Int} {w : World} (hl : Ints w A n c l) :
    Calls Try.prog 3 #[.slice A n c, .int .i64 most] w fun e w' => e = .returned (.bool true) ∧ Ext w w' := by
  have HL := Lib.hid hl
  have HRo := fun (w1 : World) (A1 : Option Addr) (c1 : Nat) (h : Ints w1 A1 2 c1 [5, 6]) => Lib.hid (roped_any h)
  clear hl
  refine (callsIn_wide (n := 3)).1 (callsIn_of_wp_marks Try.func3 rfl trivial ((wpIn_wide (n := 3)).2 ?_) rfl)
  simp only [Try.ntmps3, List.size_toArray, List.length_cons, List.length_nil, Nat.reduceAdd, Nat.reduceSub, Array.replicate_succ, Array.replicate_zero, List.push_toArray, List.append_toArray, List.nil_append, List.cons_append]
  go_wp2_with fail
  obtain ⟨hx, hb3, hb4, hb5, hi5⟩ := ea_start w most
  have HC := HRo _ _ _ hi5
  generalize ((((w.alloc (.cells #[.int .i64 most] 3)).alloc (.cells #[.bool false] 4)).alloc (.cells #[.int .i64 0] 3)).alloc (.cells #[.int .i64 5, .int .i64 6] 3)) = w0 at *
  have HX0 := Lib.hid hx
  have B3 := Lib.hid hb3
  have B4 := Lib.hid hb4
  have B5 := Lib.hid hb5
  clear hx hb3 hb4 hb5 hi5 HRo
  refine HC.out.mono ?_
  rintro e w1 ⟨v, rfl, hT, hx1⟩
  obtain ⟨T, hT1, rfl, hT3⟩ := inMem_of hT
  have HT1 : Hid (T.toL = [5, 6]) := Lib.hid (by rw [AT.toL_tr, hT1, rop56])
  have HX1 := Lib.hid (HX0.out.trans hx1)
  have C3 := Lib.hid (B3.out.ext hx1)
  have C4 := Lib.hid (B4.out.ext hx1)
  have C5 := Lib.hid (B5.out.ext hx1)
  have HM := Lib.hid hT3
  clear hT hT1 hT3 HX0 B3 B4 B5 HC hx1
  go_wp2_with fail
  have hlt1 : w.heap.size + 1 + 1 < w1.heap.size := C5.out.lt
  refine wp_each (T := T) (all := [5, 6]) rfl rfl HT1.out (by decide)
    (fun pre W => Blk W (w.heap.size + 1 + 1) 3 #[.int .i64 (pre.length : Int)] ∧ Blk W w.heap.size 3 #[.int .i64 most] ∧ Blk W (w.heap.size + 1) 4 #[.bool false] ∧ Ext w W ∧ InMem W w1.heap.size T ∧ w1.heap.size ≤ W.heap.size)
    (fun _ _ _ => False) ?_ (fun _ _ _ _ _ h _ _ _ => h.elim) (fun s W h => h.2.2.2.2.1) ⟨C5.out, C3.out, C4.out, HX1.out, HM.out, Nat.le_refl _⟩
    (fun at_ x => { tmps := #[.slice A n c, .int .i64 most, undef, .pointer (some ⟨w.heap.size, 0, none⟩), .pointer (some ⟨w.heap.size + 1, 0, none⟩), .pointer (some ⟨w.heap.size + 1 + 1, 0, none⟩), .int .i64 at_, .int .i64 x, undef, undef, undef, undef, undef, .slice (some ⟨w.heap.size + 1 + 1 + 1, 0, none⟩) 2 2, .agg #[.pointer T.ad], .func (.func 5) #[.agg #[.pointer T.ad]] #[], .int .i64 at_, .int .i64 x, undef, undef, undef, undef, undef, undef, undef, undef, undef, undef, undef, undef, undef, undef, undef, undef, undef, undef, undef, undef, undef, undef, undef, undef, undef, undef, undef, undef, undef, undef, undef, undef, undef, undef, undef, undef, undef, undef, undef, undef, undef, undef], defers := [] }) ?assign ?body ?done (fun _ _ _ _ h _ => h.elim)
  · rintro s W W' q ⟨h1, h2, h3, h4, h5, h6⟩ hg hq _
    exact ⟨h1.grown hg (fun e => by injection e with e; omega), h2.grown hg (fun e => by injection e with e; omega), h3.grown hg (fun e => by injection e with e; omega), Below.grown h4 hg h4.size (fun k e => by injection e with e; omega), h5.grown hg hq, Nat.le_trans h6 hg.size⟩
  case assign =>
    intro l at_ x W K hK
    gi_wp2
    exact hK
  case body =>
    rintro l pre x W ⟨h1, h2, h3, h4, h5, h6⟩ hsz hpre
    have hcase : (pre = [] ∧ x = 5) ∨ (pre = [5] ∧ x = 6) := by
      obtain ⟨r, hr⟩ := hpre
      match pre, hr with
      | [], hr => left; simp at hr; exact ⟨rfl, hr.1⟩
      | [a], hr => right; simp at hr; exact ⟨by rw [hr.1], hr.2.1⟩
      | a :: b :: q, hr => exfalso; have := congrArg List.length hr; simp at this
    have HB := Lib.hid h1
    have H3 := Lib.hid h2
    have H4 := Lib.hid h3
    have HX := Lib.hid h4
    have HI := Lib.hid h5
    have HS := Lib.hid h6
    have c5 : W.cell? ⟨w.heap.size + 1 + 1, 0, none⟩ = some (.int .i64 (pre.length : Int)) := by have := h1.cell 0; simpa using this
    have f5 := h1.frozen 0
    clear h1 h2 h3 h4 h5 h6 hpre
    rcases hcase with ⟨rfl, rfl⟩ | ⟨rfl, rfl⟩
    all_goals
      gi_wp2
      refine ⟨Six.grown (setCell_grown W ⟨w.heap.size + 1 + 1, 0, none⟩ _) hsz (fun k e => by injection e with e; left; show k < _; rw [← e]; exact hlt1), by simpa using HB.out.set_ 0 _, Blk.setNe H3.out (p := ⟨w.heap.size + 1 + 1, 0, none⟩) (by show w.heap.size + 1 + 1 ≠ _; omega) _, Blk.setNe H4.out (p := ⟨w.heap.size + 1 + 1, 0, none⟩) (by show w.heap.size + 1 + 1 ≠ _; omega) _,
        HX.out.setCell (p := ⟨w.heap.size + 1 + 1, 0, none⟩) (show w.heap.size ≤ w.heap.size + 1 + 1 by omega) _, HI.out.slot (by decide) HB.out, by simpa using HS.out⟩
  case done =>
    rintro W ⟨h1, h2, h3, h4, h5, h6⟩ hD
    have c5 : W.cell? ⟨w.heap.size + 1 + 1, 0, none⟩ = some (.int .i64 2) := by have := h1.cell 0; simpa using this
    have HD := Lib.hid hD
    have B3 := Lib.hid h2
    have B4 := Lib.hid h3
    have HX := Lib.hid h4
    have HSz := Lib.hid h6
    have HC := Lib.hid (of_any (HL.out.ext h4))
    clear h1 h2 h3 h4 h5 h6 hD C3 C4 C5 HM HT1 HX1
    go_wp2_with fail
    refine HC.out.mono ?_
    rintro e w2 ⟨v, rfl, hT2, hx2⟩
    have hx3 := hx2.trans (Ext.alloc w2 (.cells #[.pointer v] 26))
    have hT3 := TreeAt.ext (Ext.alloc w2 (.cells #[.pointer v] 26)) hT2
    have hb8 := Blk.new w2 26 #[.pointer v]
    have hs2 : W.heap.size ≤ w2.heap.size := hx2.hsize
    by_cases hlen : l.length ≤ 4096
    · have hE : errF l = 0 := if_pos hlen
      rw [hE]
      have HLn := Lib.hid hlen
      clear hE hlen c5 HC
      go_upto_region 11 with fail
      change Code.wp _ _ _ _ (w2.alloc (.cells #[.pointer v] 26))
      generalize w2.alloc (.cells #[.pointer v] 26) = w3 at *
      have D3 := Lib.hid (B3.out.ext hx3)
      have D4 := Lib.hid (B4.out.ext hx3)
      have DX := Lib.hid (HX.out.trans hx3)
      have DD := Lib.hid ((Below.block hx3 w1.heap.size (by have h := (Array.getElem?_eq_some_iff.1 HD.out).1; exact h)).trans HD.out)
      have D8 := Lib.hid hb8
      have DT := Lib.hid hT3
      have c8 : w3.cell? ⟨w2.heap.size, 0, none⟩ = some (.pointer v) := by have := hb8.cell 0; simpa using this
      clear hx2 hx3 hT2 hT3 hb8 B3 B4 HX HD
      go_upto_region 14 with fail
      change Code.wp _ _ _ _ (w3.alloc (.cells #[.slice none 0 0] 22))
      have hx4 := Ext.alloc w3 (.cells #[.slice none 0 0] 22)
      have E10 := Lib.hid (Blk.new w3 22 #[.slice none 0 0])
      have E3 := Lib.hid (D3.out.ext hx4)
      have E4 := Lib.hid (D4.out.ext hx4)
      have EX := Lib.hid (DX.out.trans hx4)
      have ED := Lib.hid ((Below.block hx4 w1.heap.size (by have h := (Array.getElem?_eq_some_iff.1 DD.out).1; exact h)).trans DD.out)
      have ET := Lib.hid (DT.out.ext hx4)
      have d8 := hx4.cell c8
      have hs3 : w2.heap.size < w3.heap.size := D8.out.lt
      have hs4 : w3.heap.size < (w3.alloc (.cells #[.slice none 0 0] 22)).heap.size := E10.out.lt
      clear c8 D3 D4 DX DD DT D8 hx4
      generalize w3.alloc (.cells #[.slice none 0 0] 22) = w4 at *
      obtain ⟨U, hU1, rfl, hU3⟩ := inMem_of ET.out
      have HU := Lib.hid hU3
      have HUl : Hid (U.toL = l) := Lib.hid (by
        rw [AT.toL_tr, hU1]
        unfold ropF
        rw [if_pos HLn.out]
        exact (build_spec _ _ (Nat.le_refl _)).2)
      clear hU1 hU3 ET
      go_wp2_with fail
      have hw1 : w1.heap.size ≤ W.heap.size := HSz.out
      have hb1 : w1.heap.size < w4.heap.size := by omega
      have hb3 : w3.heap.size < w4.heap.size := by omega
      have hww : w.heap.size + 1 < w4.heap.size := by omega
      refine wp_each (T := U) (all := l) rfl rfl HUl.out (by have := HLn.out; omega) (GotAt w w4 w1.heap.size w3.heap.size most U)
        (fun cd p W' => cd = .exit 2 ∧ ∃ p0 x, p = p0 ++ [x] ∧ most ≤ (p0.length : Int) ∧ GotAt w w4 w1.heap.size w3.heap.size most U p0 W') (GotAt.minds hb1 hb3 hww)
        (fun cd s W1 W2 q h hg h1 h2 => ⟨h.1, let ⟨p0, x, e1, e2, e3⟩ := h.2; ⟨p0, x, e1, e2, GotAt.minds hb1 hb3 hww p0 W1 W2 q e3 hg h1 h2⟩⟩) (fun s W' h => h.mem)
        ⟨⟨none, 0, E10.out, OwnI.nil _ _⟩, E3.out, E4.out, EX.out, ED.out, HU.out, Nat.le_refl _, by simp; omega⟩
        (fun at_ x => { tmps := #[.slice A n c, .int .i64 most, undef, .pointer (some ⟨w.heap.size, 0, none⟩), .pointer (some ⟨w.heap.size + 1, 0, none⟩), .pointer (some ⟨w.heap.size + 1 + 1, 0, none⟩), undef, undef, .pointer (some ⟨w2.heap.size, 0, none⟩), .int .i64 0, .pointer (some ⟨w3.heap.size, 0, none⟩), .int .i64 at_, .int .i64 x, .slice (some ⟨w.heap.size + 1 + 1 + 1, 0, none⟩) 2 2, .agg #[.pointer T.ad], .func (.func 5) #[.agg #[.pointer T.ad]] #[], undef, undef, undef, undef, undef, undef, undef, undef, .int .i64 2, .bool false, .tuple #[.agg #[.pointer U.ad], .int .i64 0], .slice A n c, .tuple #[.agg #[.pointer U.ad], .int .i64 0], .agg #[.pointer U.ad], .int .i64 0, .int .i64 0, .bool false, .agg #[.pointer U.ad], .func (.func 5) #[.agg #[.pointer U.ad]] #[], .int .i64 at_, .int .i64 x, undef, undef, undef, undef, undef, undef, undef, undef, undef, undef, undef, undef, undef, undef, undef, undef, undef, undef, undef, undef, undef, undef, undef], defers := [] }) ?assign2 ?body2 ?done2 ?stop2
      case assign2 =>
        intro l at_ x W K hK
        gi_wp2
        exact hK
      case body2 =>
        rintro lp pre x W ⟨⟨B, d, g1, g2⟩, g3, g4, g5, g6, g7, g8, g9⟩ hsz hpre
        have hpl : pre.length + 1 ≤ 4096 := by have h1 := hpre.length_le; have h2 := HLn.out; simp at h1; omega
        obtain ⟨q, hq⟩ : ∃ q, pre.length = q := ⟨_, rfl⟩
        have HQ := Lib.hid hq
        rw [hq] at g1 g2 g9 hpl
        have c10 : W.cell? ⟨w3.heap.size, 0, none⟩ = some (.slice B q d) := by have := g1.cell 0; simpa using this
        have c3 : W.cell? ⟨w.heap.size, 0, none⟩ = some (.int .i64 most) := by have := g3.cell 0; simpa using this
        have f10 := g1.frozen 0
        rw [hq]
        have G1 := Lib.hid g1
        have G2 := Lib.hid g2
        have G3 := Lib.hid g3
        have G4 := Lib.hid g4
        have G5 := Lib.hid g5
        have G6 := Lib.hid g6
        have G7 := Lib.hid g7
        have G8 := Lib.hid g8
        have G9 := Lib.hid g9
        obtain ⟨i0, hi, hz0, hz1, hz2⟩ := info_parts info_int
        have hown := Own.ext g2 (Ext.alloc W (.cells #[.int .i64 x] 3))
        clear hq g1 g2 g3 g4 g5 g6 g7 g8 g9 hpre HU HUl
        gi_wp2_with ((gi_at_builtin; refine (fun (h : True → _) => h trivial) ?_))
        · exact ⟨Six.refl _ _, rfl, pre, x, rfl, by rw [HQ.out]; assumption, ⟨B, d, by rw [HQ.out]; exact G1.out, by rw [HQ.out]; exact G2.out⟩, G3.out, G4.out, G5.out, G6.out, G7.out, G8.out, by rw [HQ.out]; exact G9.out⟩
        · intro _
          refine wpListIn_append_own _ rfl _ _ 22 rfl (w4.heap.size + 6) 3 i0 _ 1 8 Try.underlying22 hi hz0 hz1 hz2 rfl (by decide) _ _ _ rfl hown ⟨W.heap.size, 0, none⟩ 1 1 [.int .i64 x] rfl rfl (cell_one_new _ _ _) (by simp [Value.oneCell']) (by unfold maxLen; omega) (by omega) (by simp; omega) ?_
          intro v' W2 hown2 hgr _
          obtain ⟨g', cap', rfl⟩ := ownsRow_succ hown2
          have hlm : (q : Int) < most := by assumption
          have hob : ∀ k, (Value.slice B q d).ownBlock = some k → w4.heap.size + 6 ≤ k := fun k hk => (Own.blk G2.out k hk).1
          have hga := World.grownBy_alloc W (.cells #[.int .i64 x] 3) none
          have k10 := Blk.grown (G1.out.grown hga (by simp)) hgr (fun e => by have := hob _ e.symm; omega)
          have k3 := Blk.grown (G3.out.grown hga (by simp)) hgr (fun e => by have := hob _ e.symm; omega)
          have k4 := Blk.grown (G4.out.grown hga (by simp)) hgr (fun e => by have := hob _ e.symm; omega)
          have kx := Below.grown (G5.out.trans (Ext.alloc W (.cells #[.int .i64 x] 3))) hgr (by have := G5.out.hsize; simp; omega) (fun k e => by have := hob _ e; omega)
          have k6 : W2.heap[w1.heap.size]? = some (.deferred (some [])) := by
            have h1 := hga.block w1.heap.size (Array.getElem?_eq_some_iff.1 G6.out).1 (by simp)
            have h2 := hgr.block w1.heap.size (Nat.lt_of_lt_of_le (Array.getElem?_eq_some_iff.1 G6.out).1 hga.size) (fun e => by have := hob _ e.symm; omega)
            exact (h2.trans h1).trans G6.out
          have k7 : InMem W2 w4.heap.size U := InMem.grownO hgr (fun k e => by have := hob _ e; omega) (G7.out.ext (Ext.alloc W _))
          have hs5 : W.heap.size < W2.heap.size := by have := hgr.size; simp at this; omega
          have c10' : W2.cell? ⟨w3.heap.size, 0, none⟩ = some (.slice B q d) := by have := k10.cell 0; simpa using this
          have f10' := k10.frozen 0
          have hS6 : Six w4.heap.size W W2 := (Six.grown hga hsz (fun k e => by cases e)).trans (Six.grown hgr (by simp; omega) (fun k e => .inr (hob _ e)))
          have K10 := Lib.hid k10
          have K3 := Lib.hid k3
          have K4 := Lib.hid k4
          have KX := Lib.hid kx
          have K6 := Lib.hid k6
          have K7 := Lib.hid k7
          have KS := Lib.hid hS6
          have KO := Lib.hid hown2
          clear k10 k3 k4 kx k6 k7 hS6 hown2 hgr hga hob hown G1 G2 G3 G4 G5 G6 G7 c10 c3 f10
          gi_wp2
          refine ⟨KS.out.trans (Six.grown (setCell_grown W2 ⟨w3.heap.size, 0, none⟩ _) (by omega) (fun k e => by injection e with e; left; rw [← e]; exact hb3)), ⟨some ⟨g', 0, none⟩, cap', ?_, ?_⟩,
            Blk.setNe K3.out (p := ⟨w3.heap.size, 0, none⟩) (by show w3.heap.size ≠ _; omega) _, Blk.setNe K4.out (p := ⟨w3.heap.size, 0, none⟩) (by show w3.heap.size ≠ _; omega) _,
            KX.out.setCell (p := ⟨w3.heap.size, 0, none⟩) (show w.heap.size ≤ w3.heap.size by omega) _, (Below.heap_setCell W2 _ _ _ (by show w1.heap.size ≠ w3.heap.size; omega)).trans K6.out, K7.out.slot (by decide) K10.out, by simp; have := G8.out; omega, by simp; have h1 := HQ.out; omega⟩
          · rw [List.length_append, HQ.out]
            simpa using K10.out.set_ 0 _
          · rw [List.length_append, HQ.out]
            have h1 := KO.out
            have h2 : Own W2 (w4.heap.size + 6) 3 1 (some ⟨g', 0, none⟩) (q + 1) cap' ((pre ++ [x]).map (Value.int .i64)) := by rw [List.map_append]; exact h1
            exact Own.setCell h2 (p := ⟨w3.heap.size, 0, none⟩) (show w3.heap.size < w4.heap.size + 6 by omega) _
      case done2 =>
        rintro W' ⟨⟨B, d, g1, g2⟩, g3, g4, g5, g6, g7, g8, g9⟩ hD
        have hn : l.length = n := HL.out.len
        obtain ⟨q, hq⟩ : ∃ q, l.length = q := ⟨_, rfl⟩
        rw [hq] at g1 g2 g9
        have hqn : q ≤ n := by omega
        have hmx : (if 0 < if (n : Int) < most then (n : Int) else most then if (n : Int) < most then (n : Int) else most else 0) = (q : Int) := by (split <;> split <;> omega)
        have hpl : l = l.take q := by rw [List.take_of_length_le (by omega)]
        have HQ := Lib.hid hq
        have c10 : W'.cell? ⟨w3.heap.size, 0, none⟩ = some (.slice B q d) := by have := g1.cell 0; simpa using this
        have c3 : W'.cell? ⟨w.heap.size, 0, none⟩ = some (.int .i64 most) := by have := g3.cell 0; simpa using this
        have G2 := Lib.hid g2
        have G4 := Lib.hid g4
        have G5 := Lib.hid g5
        have G6 := Lib.hid g6
        have GD := Lib.hid hD
        have hnc : n ≤ c := HL.out.ncap
        have hcm : c ≤ maxLen := HL.out.nmax
        unfold maxLen at hcm
        have hqc : q ≤ c := by omega
        have HF := Lib.hid (HL.out.front (k := q) hqn)
        have HEq := Lib.hid (equal_ext (G2.out.ints.ext (Ext.drew W')) ((HF.out.ext g5).ext (Ext.drew W')))
        rw [eqB_true.2 hpl] at HEq
        clear g1 g2 g3 g4 g5 g6 g7 g8 g9 hD hq hpl HL
        go_upto_region 19 with fail
        refine wp_calm ?_
        go_region_law (first
          | (refine step_callf rfl 7 #[.slice B q d, .slice A q c] rfl (by kernel_rfl) (fun v w' => v = .bool true ∧ Ext W'.drew w') (HEq.out.mono fun e w' ⟨h1, h2⟩ => ⟨_, h1, rfl, h2⟩) ?_
             rintro v w5 ⟨rfl, hx5⟩
             have b4 := (Blk.ext G4.out (Ext.drew W')).ext hx5
             have c4 := b4.cell 0
             have f4 := b4.frozen 0
             simp only [List.getElem?_toArray, List.getElem?_cons_zero] at c4))
        all_goals
          have hx6 := (Ext.drew W').trans hx5
          obtain ⟨r1, r2, r3, r4⟩ := ea_end (d1 := w1.heap.size) (d2 := w4.heap.size) b4 (G5.out.trans hx6) ((Below.block hx6 _ (Array.getElem?_eq_some_iff.1 G6.out).1).trans G6.out) ((Below.block hx6 _ (Array.getElem?_eq_some_iff.1 GD.out).1).trans GD.out) (by omega) hww (by omega)
          have R1 := Lib.hid r1
          have R2 := Lib.hid r2
          have R3 := Lib.hid r3
          have R4 := Lib.hid r4
          clear r1 r2 r3 r4 b4 c4 f4 hx5 hx6 HEq c10 c3 hmx
          unfold calmly
          go_wp2_with fail
        all_goals
          refine leaves_mark R1.out (leaves_mark R2.out ⟨.bool true, ?_, rfl, R4.out⟩)
          have r3 := R3.out
          simp [results, Try.results3, go_sem, r3]
          try rfl
      case stop2 =>
        rintro cd p W' hp ⟨rfl, p0, x, rfl, hmost, ⟨B, d, g1, g2⟩, g3, g4, g5, g6, g7, g8, g9⟩ hD
        have hn : l.length = n := HL.out.len
        have hpp : p0 = l.take p0.length ∧ p0.length < l.length := by
          obtain ⟨r, hr⟩ := hp
          rw [← hr]
          exact ⟨by simp, by simp⟩
        obtain ⟨q, hq⟩ : ∃ q, p0.length = q := ⟨_, rfl⟩
        rw [hq] at g1 g2 g9 hmost hpp
        have hqn : q ≤ n := by omega
        have hmx : (if 0 < if (n : Int) < most then (n : Int) else most then if (n : Int) < most then (n : Int) else most else 0) = (q : Int) := by (split <;> split <;> omega)
        have hpl : p0 = l.take q := hpp.1
        clear hp hpp
        have HQ := Lib.hid hq
        have c10 : W'.cell? ⟨w3.heap.size, 0, none⟩ = some (.slice B q d) := by have := g1.cell 0; simpa using this
        have c3 : W'.cell? ⟨w.heap.size, 0, none⟩ = some (.int .i64 most) := by have := g3.cell 0; simpa using this
        have G2 := Lib.hid g2
        have G4 := Lib.hid g4
        have G5 := Lib.hid g5
        have G6 := Lib.hid g6
        have GD := Lib.hid hD
        have hnc : n ≤ c := HL.out.ncap
        have hcm : c ≤ maxLen := HL.out.nmax
        unfold maxLen at hcm
        have hqc : q ≤ c := by omega
        have HF := Lib.hid (HL.out.front (k := q) hqn)
        have HEq := Lib.hid (equal_ext (G2.out.ints.ext (Ext.drew W')) ((HF.out.ext g5).ext (Ext.drew W')))
        rw [eqB_true.2 hpl] at HEq
        clear g1 g2 g3 g4 g5 g6 g7 g8 g9 hD hq hpl HL
        go_upto_region 19 with fail
        refine wp_calm ?_
        go_region_law (first
          | (refine step_callf rfl 7 #[.slice B q d, .slice A q c] rfl (by kernel_rfl) (fun v w' => v = .bool true ∧ Ext W'.drew w') (HEq.out.mono fun e w' ⟨h1, h2⟩ => ⟨_, h1, rfl, h2⟩) ?_
             rintro v w5 ⟨rfl, hx5⟩
             have b4 := (Blk.ext G4.out (Ext.drew W')).ext hx5
             have c4 := b4.cell 0
             have f4 := b4.frozen 0
             simp only [List.getElem?_toArray, List.getElem?_cons_zero] at c4))
        all_goals
          have hx6 := (Ext.drew W').trans hx5
          obtain ⟨r1, r2, r3, r4⟩ := ea_end (d1 := w1.heap.size) (d2 := w4.heap.size) b4 (G5.out.trans hx6) ((Below.block hx6 _ (Array.getElem?_eq_some_iff.1 G6.out).1).trans G6.out) ((Below.block hx6 _ (Array.getElem?_eq_some_iff.1 GD.out).1).trans GD.out) (by omega) hww (by omega)
          have R1 := Lib.hid r1
          have R2 := Lib.hid r2
          have R3 := Lib.hid r3
          have R4 := Lib.hid r4
          clear r1 r2 r3 r4 b4 c4 f4 hx5 hx6 HEq c10 c3 hmx
          unfold calmly
          go_wp2_with fail
        all_goals
          refine leaves_mark R1.out (leaves_mark R2.out ⟨.bool true, ?_, rfl, R4.out⟩)
          have r3 := R3.out
          simp [results, Try.results3, go_sem, r3]
          try rfl
    · have hE : errF l = 2 := if_neg hlen
      rw [hE]
      clear hE hlen c5 HC
      go_upto_region 12 with fail
      change Code.wp _ _ _ _ (w2.alloc (.cells #[.pointer v] 26))
      generalize w2.alloc (.cells #[.pointer v] 26) = w3 at *
      have D4 := Lib.hid (B4.out.ext hx3)
      have DX := Lib.hid (HX.out.trans hx3)
      have DD := Lib.hid ((Below.block hx3 w1.heap.size (by have h := (Array.getElem?_eq_some_iff.1 HD.out).1; exact h)).trans HD.out)
      have c4 : w3.cell? ⟨w.heap.size + 1, 0, none⟩ = some (.bool false) := by have := D4.out.cell 0; simpa using this
      have f4 := D4.out.frozen 0
      clear hx2 hx3 hT2 hT3 hb8 B3 B4 HX HD
      go_wp2_with fail
      have hk1 : (w3.setCell ⟨w.heap.size + 1, 0, none⟩ (.bool true)).heap[w1.heap.size]? = some (.deferred (some [])) := (Below.heap_setCell w3 ⟨w.heap.size + 1, 0, none⟩ (.bool true) w1.heap.size (by show w1.heap.size ≠ w.heap.size + 1; omega)).trans DD.out
      have c4' : ((w3.setCell ⟨w.heap.size + 1, 0, none⟩ (.bool true)).putObj w1.heap.size (.deferred none)).cell? ⟨w.heap.size + 1, 0, none⟩ = some (.bool true) := by
        have h1 := (D4.out.set_ 0 (.bool true)).grown (putObj_grown _ w1.heap.size (.deferred none)) (fun e => by injection e with e; omega)
        have := h1.cell 0
        simpa using this
      have hxf : Ext w ((w3.setCell ⟨w.heap.size + 1, 0, none⟩ (.bool true)).putObj w1.heap.size (.deferred none)) := Below.grown (DX.out.setCell (p := ⟨w.heap.size + 1, 0, none⟩) (show w.heap.size ≤ w.heap.size + 1 by omega) _) (putObj_grown _ _ _) (by have := DX.out.hsize; simpa using this) (fun k e => by injection e with e; omega)
      refine leaves_mark hk1 ⟨.bool true, ?_, rfl, hxf⟩
      simp [results, Try.results3, go_sem, c4']
      try rfl
end Go.Proofs.Ytbfamaccnjnfpaa
