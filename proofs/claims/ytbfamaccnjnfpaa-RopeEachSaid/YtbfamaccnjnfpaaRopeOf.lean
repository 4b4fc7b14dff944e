/-
  rope.Of, and roped, at whatever lengths.
-/
import Derived.Test.YtbfamaccnjnfpaaRopeC
import Derived.IntWalk
namespace Go.Proofs.Ytbfamaccnjnfpaa
open Go.RowKit
set_option linter.unusedVariables false
set_option linter.unusedSimpArgs false

theorem Blk.setNe {w : World} {g t : Nat} {cs : Array Value} (h : Blk w g t cs) {p : Addr} (hp : p.block ≠ g) (u : Value) : Blk (w.setCell p u) g t cs := by
  unfold Blk at h ⊢
  unfold World.setCell
  simp only [Array.getElem?_modify]
  rw [if_neg hp]
  exact h
/-- A slot of another type is written: the tree stays. -/
theorem TreeAt.slot {w : World} {q T : Nat} {x u : Value} (hT : T ≠ 36) (hb : Blk w q T #[x]) : ∀ {t : Tr} {a : Option Addr}, TreeAt w a t → TreeAt (w.setCell ⟨q, 0, none⟩ u) a t
  | .nil, a, h => h
  | .node l c r, a, h => by
    obtain ⟨g, la, ra, h1, h2, h3, h4⟩ := h
    refine ⟨g, la, ra, h1, h2.setNe ?_ u, TreeAt.slot hT hb h3, TreeAt.slot hT hb h4⟩
    intro e
    have e : q = g := e
    subst e
    unfold Blk at hb h2
    rw [hb] at h2
    injection h2 with h2
    injection h2 with _ h2
    exact hT h2
theorem slot1 {w W : World} {q T : Nat} {x0 : Value} (hb : Blk W q T #[x0]) (he : Ext w W) (hq : w.heap.size ≤ q) :
    (∀ x : Value, (W.setCell ⟨q, 0, none⟩ x).cell? ⟨q, 0, none⟩ = some x) ∧ (∀ x : Value, Ext w (W.setCell ⟨q, 0, none⟩ x)) ∧ (∀ x : Value, Blk (W.setCell ⟨q, 0, none⟩ x) q T #[x]) :=
  ⟨fun x => by have := (hb.set_ 0 x).cell 0; simpa using this, fun x => he.setCell hq _, fun x => by simpa using hb.set_ 0 x⟩

theorem build_ok : ∀ f : Nat, BuildP f
  | 0 => by
    intro l A n c w hl hf hn
    obtain rfl : n = 0 := by omega
    obtain rfl : l = [] := List.eq_nil_of_length_eq_zero hl.len
    clear hl
    go_enter Try.func9, Try.ntmps9
    go_wp2_with fail
    go_ret
    exact ⟨none, rfl, rfl, Ext.refl _⟩
  | f + 1 => by
    intro l A n c w hl hf hn
    rcases Nat.eq_zero_or_pos n with h0 | h0
    · subst h0
      obtain rfl : l = [] := List.eq_nil_of_length_eq_zero hl.len
      clear hl
      go_enter Try.func9, Try.ntmps9
      go_wp2_with fail
      go_ret
      exact ⟨none, rfl, rfl, Ext.refl _⟩
    · have hlen := hl.len
      have e : Tr.buildF (f + 1) l = Tr.node (Tr.buildF f (l.take (n / 2))) (gI l (n / 2)) (Tr.buildF f (l.drop (n / 2 + 1))) := by
        show (if l.length = 0 then _ else _) = _
        rw [if_neg (by omega), hlen]
      rw [e]
      exact build_step (Lib.hid (build_ok f)) hl hf hn h0

set_option maxHeartbeats 2000000 in
theorem of_small {l : List Int} {A : Option Addr} {n c : Nat} {w : World} (hl : Ints w A n c l) (hn : n ≤ 4096) :
    Calls Try.prog 6 #[.slice A n c] w fun e w' => ∃ v, e = .returned (.tuple #[.agg #[.pointer v], .int .i64 0]) ∧ TreeAt w' v (Tr.build l) ∧ Ext w w' := by
  have hx := Ext.alloc w (.cells #[.pointer none] 26)
  have hb := Blk.new w 26 #[.pointer none]
  have HB := Lib.hid (build_ok n l A n c _ (hl.ext hx) (Nat.le_refl _) hn)
  have HE : Hid (Tr.buildF n l = Tr.build l) := Lib.hid (by unfold Tr.build; rw [hl.len])
  have hcm := hl.nmax
  have hnc := hl.ncap
  unfold maxLen at hcm
  clear hl
  go_enter Try.func6, Try.ntmps6
  go_wp2_with fail
  refine HB.out.mono ?_
  rintro e w1 ⟨v, rfl, hv, he⟩
  have hq := hb.ext he
  have f0 := hq.frozen 0
  have c0 := hq.cell 0
  simp only [List.getElem?_toArray, List.getElem?_cons_zero, List.getElem?_cons_succ] at c0
  have HQ := Lib.hid hq
  have HV := Lib.hid hv
  clear HB hb hq hv
  go_wp2_with fail
  obtain ⟨c6, hx6, _⟩ := slot1 HQ.out (hx.trans he) (Nat.le_refl _)
  refine bodyPost_ret (by simp [results, Try.results6, go_sem, c6]; try rfl) rfl ?_
  refine ⟨v, rfl, ?_, hx6 _⟩
  rw [← HE.out]
  exact TreeAt.slot (by decide) HQ.out HV.out

set_option maxHeartbeats 1000000 in
theorem of_large {A : Option Addr} {n c : Nat} {w : World} (hnc : n ≤ c) (hcm : c ≤ maxLen) (hn : 4096 < n) :
    Calls Try.prog 6 #[.slice A n c] w fun e w' => e = .returned (.tuple #[.agg #[.pointer none], .int .i64 2]) ∧ Ext w w' := by
  have hx := Ext.alloc w (.cells #[.pointer none] 26)
  have hb := Blk.new w 26 #[.pointer none]
  have f0 := hb.frozen 0
  have c0 := hb.cell 0
  simp only [List.getElem?_toArray, List.getElem?_cons_zero, List.getElem?_cons_succ] at c0
  have HQ := Lib.hid hb
  unfold maxLen at hcm
  clear hb
  go_enter Try.func6, Try.ntmps6
  go_wp2_with fail
  obtain ⟨c6, hx6, _⟩ := slot1 HQ.out hx (Nat.le_refl _)
  refine bodyPost_ret (by simp [results, Try.results6, go_sem, c6]; try rfl) rfl ?_
  exact ⟨rfl, by first | exact hx6 _ | exact hx⟩

def errF (l : List Int) : Int := if l.length ≤ 4096 then 0 else 2
/-- The rope of a list: none, where there are too many. -/
def ropF (l : List Int) : Tr := if l.length ≤ 4096 then Tr.build l else .nil
theorem rop_bal (l : List Int) : (ropF l).bal ∧ (ropF l).sz ≤ 4096 := by
  unfold ropF
  split
  · rename_i h
    obtain ⟨h1, h2⟩ := build_spec l.length l (Nat.le_refl _)
    have h3 : (Tr.build l).toL.length = (Tr.build l).sz := Tr.len _
    unfold Tr.build at *
    rw [h2] at h3
    exact ⟨h1, by omega⟩
  · exact ⟨trivial, by simp [Tr.sz]⟩
theorem of_any {l : List Int} {A : Option Addr} {n c : Nat} {w : World} (hl : Ints w A n c l) :
    Calls Try.prog 6 #[.slice A n c] w fun e w' => ∃ v, e = .returned (.tuple #[.agg #[.pointer v], .int .i64 (errF l)]) ∧ TreeAt w' v (ropF l) ∧ Ext w w' := by
  have hlen := hl.len
  unfold ropF errF
  by_cases h : n ≤ 4096
  · rw [if_pos (by omega), if_pos (by omega)]
    exact of_small hl h
  · rw [if_neg (by omega), if_neg (by omega)]
    exact (of_large hl.ncap hl.nmax (by omega)).mono fun e w' ⟨h1, h2⟩ => ⟨none, h1, rfl, h2⟩

set_option maxHeartbeats 2000000 in
theorem roped_any {l : List Int} {A : Option Addr} {n c : Nat} {w : World} (hl : Ints w A n c l) :
    Calls Try.prog 4 #[.slice A n c] w fun e w' => ∃ v, e = .returned (.agg #[.pointer v]) ∧ TreeAt w' v (ropF l) ∧ Ext w w' := by
  have hx := Ext.alloc w (.cells #[.pointer none] 26)
  have hb := Blk.new w 26 #[.pointer none]
  have HB := Lib.hid (of_any (hl.ext hx))
  clear hl
  go_enter Try.func4, Try.ntmps4
  go_wp2_with fail
  refine HB.out.mono ?_
  rintro e w1 ⟨v, rfl, hv, he⟩
  have hxw := hx.trans (he.trans (Ext.alloc w1 (.cells #[.pointer v] 26)))
  have hq := (hb.ext he).ext (Ext.alloc w1 (.cells #[.pointer v] 26))
  have f0 := hq.frozen 0
  have c0 := hq.cell 0
  have hv' := TreeAt.ext (Ext.alloc w1 (.cells #[.pointer v] 26)) hv
  simp only [List.getElem?_toArray, List.getElem?_cons_zero, List.getElem?_cons_succ] at c0
  have n1 : ¬ w.heap.size = w1.heap.size := by have := (hb.ext he).lt; omega
  have n2 : ¬ w1.heap.size = w.heap.size := by omega
  have HQ := Lib.hid hq
  have HV := Lib.hid hv'
  clear HB hb hq hv hv' he
  go_wp2_with fail
  obtain ⟨c6, hx6, _⟩ := slot1 HQ.out hxw (Nat.le_refl _)
  refine bodyPost_ret (by simp [results, Try.results4, go_sem, c6]; try rfl) rfl ?_
  exact ⟨v, rfl, TreeAt.slot (by decide) HQ.out HV.out, hx6 _⟩


end Go.Proofs.Ytbfamaccnjnfpaa
