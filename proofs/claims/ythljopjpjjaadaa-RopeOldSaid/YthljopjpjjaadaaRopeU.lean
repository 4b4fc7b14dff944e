/-
  rope.Of and Join at whatever lengths; the walk of RopeJoins.
-/
import Derived.Test.YthljopjpjjaadaaRopeT
import Derived.Test.YthljopjpjjaadaaRopeB
import Derived.Test.YthljopjpjjaadaaEq
namespace Go.Proofs.Ythljopjpjjaadaa
open Go.RowKit
set_option linter.unusedVariables false
set_option linter.unusedSimpArgs false

def errF (l : List Int) : Int := if l.length ≤ 4096 then 0 else 2
/-- The rope of a list: none, where there are too many. -/
def ropF (l : List Int) : Tr := if l.length ≤ 4096 then Tr.build l else .nil
theorem rop_bal (l : List Int) : (ropF l).bal ∧ (ropF l).sz ≤ 4096 := by
  unfold ropF
  split
  · rename_i h
    obtain ⟨h1, h2⟩ := build_spec l.length l (Nat.le_refl _)
    have h3 : (Tr.build l).toL.length = (Tr.build l).sz := Tr.len _
    unfold Tr.build at *
    rw [h2] at h3
    exact ⟨h1, by omega⟩
  · exact ⟨trivial, by simp [Tr.sz]⟩
theorem of_any {l : List Int} {A : Option Addr} {n c : Nat} {w : World} (hl : Ints w A n c l) :
    Calls Try.prog 10 #[.slice A n c] w fun e w' => ∃ v, e = .returned (.tuple #[.agg #[.pointer v], .int .i64 (errF l)]) ∧ TreeAt w' v (ropF l) ∧ Ext w w' := by
  have hlen := hl.len
  unfold ropF errF
  by_cases h : n ≤ 4096
  · rw [if_pos (by omega), if_pos (by omega)]
    exact of_small hl h
  · rw [if_neg (by omega), if_neg (by omega)]
    exact (of_large hl.ncap hl.nmax (by omega)).mono fun e w' ⟨h1, h2⟩ => ⟨none, h1, rfl, h2⟩

set_option maxHeartbeats 8000000 in
theorem joinR_large {l r : Tr} {a b : Option Addr} {w : World} (hl : TreeAt w a l) (hr : TreeAt w b r) (hz : 4096 < l.sz + r.sz) (b1 : l.sz ≤ 4096) (b2 : r.sz ≤ 4096) :
    Calls Try.prog 17 #[.agg #[.pointer a], .agg #[.pointer b]] w fun e w' => e = .returned (.tuple #[.agg #[.pointer none], .int .i64 2]) ∧ Ext w w' := by
  have hx : Ext w (((w.alloc (.cells #[.pointer a] 26)).alloc (.cells #[.pointer b] 26)).alloc (.cells #[.pointer none] 26)) := ((Ext.alloc _ _).to_alloc _).to_alloc _
  have hb0 := ((Blk.new w 26 #[.pointer a]).ext (Ext.alloc _ (.cells #[.pointer b] 26))).ext (Ext.alloc _ (.cells #[.pointer none] 26))
  have hb1 := (Blk.new (w.alloc (.cells #[.pointer a] 26)) 26 #[.pointer b]).ext (Ext.alloc _ (.cells #[.pointer none] 26))
  have hb2 := Blk.new ((w.alloc (.cells #[.pointer a] 26)).alloc (.cells #[.pointer b] 26)) 26 #[.pointer none]
  rw [show (w.alloc (.cells #[.pointer a] 26)).heap.size = w.heap.size + 1 by simp] at hb1
  rw [show ((w.alloc (.cells #[.pointer a] 26)).alloc (.cells #[.pointer b] 26)).heap.size = w.heap.size + 2 by simp] at hb2
  have HL := Lib.hid (TreeAt.ext hx hl)
  have HR := Lib.hid (TreeAt.ext hx hr)
  have HZ := Lib.hid hz
  have d1 : (4096 : Int) - (r.sz : Int) < (l.sz : Int) := by omega
  clear hl hr hz
  go_enter Try.func17, Try.ntmps17
  go_wp2_with fail
  rw [show w.heap.size + 1 + 1 = w.heap.size + 2 from rfl]
  have hall := And.intro hx (And.intro hb0 (And.intro hb1 (And.intro hb2 (And.intro HL HR))))
  clear hx hb0 hb1 hb2 HL HR
  revert hall
  generalize ((w.alloc (.cells #[.pointer a] 26)).alloc (.cells #[.pointer b] 26)).alloc (.cells #[.pointer none] 26) = W0
  rintro ⟨hx, hb0, hb1, hb2, HL, HR⟩
  have k0 := hb0.cell 0
  have k1 := hb1.cell 0
  simp only [List.getElem?_toArray, List.getElem?_cons_zero, List.getElem?_cons_succ] at k0 k1
  have hxd := Ext.drew W0
  obtain ⟨x, hxx⟩ : ∃ x, x = 4096 - r.sz := ⟨_, rfl⟩
  have hw4 : IntKind.i64.wrap ((4096 : Int) - (r.sz : Int)) = (x : Int) := by rw [IntWalk.i64_in _ (by omega)]; omega
  have d2 : decide ((x : Int) < (l.sz : Int)) = true := by simp; omega
  have d3 : (x : Int) < (l.sz : Int) := by omega
  have H1 : Hid (∀ (w1 : World) (a' : Option Addr), a' = a → Ext W0.drew w1 → Calls Try.prog 13 #[.agg #[.pointer a']] w1 fun e w' => e = .returned (.int .i64 l.sz) ∧ Ext w1 w') :=
    Lib.hid (fun w1 a' hq he => by rw [hq]; exact len_ok (TreeAt.ext (hxd.trans he) HL.out))
  have H2 : Hid (∀ (w1 : World) (a' : Option Addr), a' = b → Ext W0.drew w1 → Calls Try.prog 13 #[.agg #[.pointer a']] w1 fun e w' => e = .returned (.int .i64 r.sz) ∧ Ext w1 w') :=
    Lib.hid (fun w1 a' hq he => by rw [hq]; exact len_ok (TreeAt.ext (hxd.trans he) HR.out))
  clear d1 hxx
  go_region_held3 (fun w' => w'.cell? ⟨w.heap.size, 0, none⟩ = some (.pointer a) ∧ w'.cell? ⟨w.heap.size + 1, 0, none⟩ = some (.pointer b)) (first | go_keep | (exact ⟨Ext.cell (by assumption) (by first | assumption | exact And.left (by assumption)), Ext.cell (by assumption) (by first | assumption | exact And.right (by assumption))⟩)) (first
    | (go_at_call 13
       first
         | (refine (H1.out _ _ (by with_reducible rfl) (by first | exact Ext.refl _ | assumption)).mono ?_
            rintro e wa ⟨rfl, hea⟩)
         | (refine (H2.out _ _ (by with_reducible rfl) (by first | exact Ext.refl _ | assumption)).mono ?_
            rintro e wb ⟨rfl, heb⟩)))
  have hyb := hxd.trans (hea.trans heb)
  have hq := hb2.ext hyb
  have f0 := hq.frozen 0
  have c0 := hq.cell 0
  simp only [List.getElem?_toArray, List.getElem?_cons_zero, List.getElem?_cons_succ] at c0
  have HQ := Lib.hid hq
  clear H1 H2 hw4 d2 k0 k1 hea heb HL HR hq hb0 hb1 hb2
  go_wp2_with fail
  all_goals first
    | (exfalso; omega)
    | skip
  obtain ⟨c6, hx6, _⟩ := slot1 HQ.out (hx.trans hyb) (Nat.le_add_right _ 2)
  refine bodyPost_ret (by simp [results, Try.results17, go_sem, c6]; try rfl) rfl ?_
  exact ⟨rfl, by first | exact hx6 _ | exact hx.trans hyb⟩

set_option maxHeartbeats 2000000 in
theorem roped_any {l : List Int} {A : Option Addr} {n c : Nat} {w : World} (hl : Ints w A n c l) :
    Calls Try.prog 8 #[.slice A n c] w fun e w' => ∃ v, e = .returned (.agg #[.pointer v]) ∧ TreeAt w' v (ropF l) ∧ Ext w w' := by
  have hx := Ext.alloc w (.cells #[.pointer none] 26)
  have hb := Blk.new w 26 #[.pointer none]
  have HB := Lib.hid (of_any (hl.ext hx))
  clear hl
  go_enter Try.func8, Try.ntmps8
  go_wp2_with fail
  refine HB.out.mono ?_
  rintro e w1 ⟨v, rfl, hv, he⟩
  have hxw := hx.trans (he.trans (Ext.alloc w1 (.cells #[.pointer v] 26)))
  have hq := (hb.ext he).ext (Ext.alloc w1 (.cells #[.pointer v] 26))
  have f0 := hq.frozen 0
  have c0 := hq.cell 0
  have hv' := TreeAt.ext (Ext.alloc w1 (.cells #[.pointer v] 26)) hv
  simp only [List.getElem?_toArray, List.getElem?_cons_zero, List.getElem?_cons_succ] at c0
  have n1 : ¬ w.heap.size = w1.heap.size := by have := (hb.ext he).lt; omega
  have n2 : ¬ w1.heap.size = w.heap.size := by omega
  have HQ := Lib.hid hq
  have HV := Lib.hid hv'
  clear HB hb hq hv hv' he
  go_wp2_with fail
  obtain ⟨c6, hx6, _⟩ := slot1 HQ.out hxw (Nat.le_refl _)
  refine bodyPost_ret (by simp [results, Try.results8, go_sem, c6]; try rfl) rfl ?_
  exact ⟨v, rfl, TreeAt.slot (by decide) HQ.out HV.out, hx6 _⟩


/-- What two ropes joined make, and what goes wrong. -/
def joinT (l r : Tr) : Tr := if l.sz + r.sz ≤ 4096 then Tr.concat l r else .nil
def joinE (l r : Tr) : Int := if l.sz + r.sz ≤ 4096 then 0 else 2
theorem joinR_any {l r : Tr} {a b : Option Addr} {w : World} (hl : TreeAt w a l) (hr : TreeAt w b r) (b1 : l.sz ≤ 4096) (b2 : r.sz ≤ 4096) (bl : l.bal) (br : r.bal) :
    Calls Try.prog 17 #[.agg #[.pointer a], .agg #[.pointer b]] w fun e w' => ∃ v, e = .returned (.tuple #[.agg #[.pointer v], .int .i64 (joinE l r)]) ∧ TreeAt w' v (joinT l r) ∧ Ext w w' := by
  unfold joinE joinT
  by_cases h : l.sz + r.sz ≤ 4096
  · rw [if_pos h, if_pos h]
    exact joinR_ok hl hr h bl br
  · rw [if_neg h, if_neg h]
    exact (joinR_large hl hr (by omega) b1 b2).mono fun e w' ⟨h1, h2⟩ => ⟨none, h1, rfl, h2⟩

theorem concat_sz {l r : Tr} (bl : l.bal) (br : r.bal) : (Tr.concat l r).sz = l.sz + r.sz := by
  have h := (Tr.concat_spec bl br).2
  have := congrArg List.length h
  rwa [List.length_append, Tr.len, Tr.len, Tr.len] at this
theorem joinT_ok {l r : Tr} (bl : l.bal) (br : r.bal) : (joinT l r).bal ∧ (joinT l r).sz ≤ 4096 ∧ (joinE l r = 0 → (joinT l r).toL = l.toL ++ r.toL ∧ (joinT l r).sz = l.sz + r.sz) ∧ (joinE l r ≠ 0 → joinT l r = .nil) := by
  unfold joinT joinE
  by_cases h : l.sz + r.sz ≤ 4096
  · rw [if_pos h, if_pos h]
    have h1 := Tr.concat_spec bl br
    have h2 := concat_sz bl br
    exact ⟨h1.1, by omega, fun _ => ⟨h1.2, h2⟩, fun hh => absurd rfl hh⟩
  · rw [if_neg h, if_neg h]
    exact ⟨trivial, by simp [Tr.sz], fun hh => absurd hh (by decide), fun _ => rfl⟩
theorem joinE_eq {l r : Tr} {n : Nat} (h : l.sz + r.sz = n) : joinE l r = if n ≤ 4096 then 0 else 2 := by unfold joinE; rw [h]
theorem joins_eq {x y z : Tr} (bx : x.bal) (bY : y.bal) (bz : z.bal) (h1 : joinE x y = 0) (h2 : joinE y z = 0) :
    joinE (joinT x y) z = joinE x (joinT y z) ∧ (joinT (joinT x y) z).toL = (joinT x (joinT y z)).toL ∧ (joinT (joinT x y) z).sz = (joinT x (joinT y z)).sz := by
  obtain ⟨b1, _, k1, _⟩ := joinT_ok bx bY
  obtain ⟨b2, _, k2, _⟩ := joinT_ok bY bz
  obtain ⟨l1, s1⟩ := k1 h1
  obtain ⟨l2, s2⟩ := k2 h2
  have he : joinE (joinT x y) z = joinE x (joinT y z) := by rw [joinE_eq (n := x.sz + y.sz + z.sz) (by omega), joinE_eq (n := x.sz + y.sz + z.sz) (by omega)]
  refine ⟨he, ?_⟩
  obtain ⟨_, _, k3, m3⟩ := joinT_ok b1 bz
  obtain ⟨_, _, k4, m4⟩ := joinT_ok bx b2
  by_cases h0 : joinE (joinT x y) z = 0
  · obtain ⟨l3, s3⟩ := k3 h0
    obtain ⟨l4, s4⟩ := k4 (by rw [← he]; exact h0)
    exact ⟨by rw [l3, l4, l1, l2, List.append_assoc], by omega⟩
  · rw [m3 h0, m4 (by rw [← he]; exact h0)]
    exact ⟨rfl, rfl⟩
theorem join_nil {x : Tr} (bx : x.bal) (hx : x.sz ≤ 4096) : joinE x .nil = 0 ∧ (joinT x .nil).toL = x.toL ∧ (joinT x .nil).sz = x.sz := by
  have h : joinE x .nil = 0 := by unfold joinE; rw [if_pos (by simp [Tr.sz]; omega)]
  obtain ⟨_, _, k, _⟩ := joinT_ok bx (r := .nil) trivial
  obtain ⟨h1, h2⟩ := k h
  exact ⟨h, by rw [h1]; simp [Tr.toL], by rw [h2]; simp [Tr.sz]⟩
theorem joins_lit : joinE (ropF [1]) (ropF [2]) = 0 ∧ (joinT (ropF [1]) (ropF [2])).toL = [1, 2] ∧ (joinT (ropF [1]) (ropF [2])).sz = 2 := by decide +kernel
end Go.Proofs.Ythljopjpjjaadaa
