/-
  rope.level, the right one is taller, its right not less: the walk.
-/
import Derived.Test.YthljopjpjjaadaaRopeW
namespace Go.Proofs.Ythljopjpjjaadaa
open Go.RowKit
set_option linter.unusedVariables false
set_option linter.unusedSimpArgs false

set_option maxHeartbeats 8000000 in
theorem lv_R1 {l rl rr : Tr} {lv rv : Option Addr} {rc c : Int} {w : World} (hl : TreeAt w lv l) (hr : TreeAt w rv (.node rl rc rr)) (hz : Tr.sz l + Tr.sz (.node rl rc rr) ≤ 100000) (h1 : (Tr.node rl rc rr).ht > l.ht + 1) (h2 : rl.ht ≤ rr.ht) :
    Calls Try.prog 32 #[.pointer lv, .int .i64 c, .pointer rv] w fun e w' => ∃ v, e = .returned (.pointer v) ∧ TreeAt w' v (Tr.node (.node l c rl) rc rr) ∧ Ext w w' := by
  have H3 := Lib.hid (tall_ok hl)
  have H4 := Lib.hid (tall_ok hr)
  have hl1 := Tr.ht_le (Tr.node rl rc rr)
  have hr1 := Tr.ht_le l
  have HZ : Hid (l.sz + (rl.sz + 1 + rr.sz) ≤ 100000) := Lib.hid hz
  obtain ⟨g, la, ra, rfl, hb, tl, tr⟩ := tree_node hr
  obtain ⟨k0, k1, k2⟩ := cells_node hb
  have d1 : (l.ht : Int) + 1 < ((Tr.node rl rc rr).ht : Int) := by omega
  have d0 : ¬ ((Tr.node rl rc rr).ht : Int) + 1 < (l.ht : Int) := by omega
  have d2 : (rl.ht : Int) ≤ (rr.ht : Int) := by omega
  have b1 : l.ht ≤ 100000 := by omega
  have b2 : (Tr.node rl rc rr).ht ≤ 100000 := by omega
  have HL := Lib.hid tl
  have HR := Lib.hid tr
  have HRR := Lib.hid hl
  clear hl hr tl tr hb hz hl1 hr1
  go_enter Try.func32, Try.ntmps32
  go_wp2_with fail
  refine H3.out.mono ?_
  rintro e w1 ⟨rfl, rfl⟩
  go_wp2_with fail
  refine H4.out.mono ?_
  rintro e w1 ⟨rfl, rfl⟩
  go_wp2_with fail
  refine H4.out.mono ?_
  rintro e w1 ⟨rfl, rfl⟩
  go_wp2_with fail
  refine H3.out.mono ?_
  rintro e w1 ⟨rfl, rfl⟩
  go_wp2_with fail
  go_quiet ((go_at_call 24; first | exact tall_quiet HL.out _ | exact tall_quiet HR.out _))
  go_wp2_with fail
  have hxq := Ext.drewN w nq
  have hxd := hxq.to_drew
  have hl := TreeAt.ext hxd HL.out
  have hr := TreeAt.ext hxd HR.out
  have hrr := TreeAt.ext hxd HRR.out
  have q0 := hxq.cell k0
  have q1 := hxq.cell k1
  have q2 := hxq.cell k2
  clear k0 k1 k2 hxq HL HR HRR H3 H4
  revert hl hr hrr q0 q1 q2 hxd
  generalize w.drewN nq = W0
  intro hxd hl hr hrr q0 q1 q2
  go_region_held3 (fun w' => w'.cell? ⟨g, 0, none⟩ = some (.pointer la) ∧ w'.cell? ⟨g, 1, none⟩ = some (.pointer ra) ∧ w'.cell? ⟨g, 2, none⟩ = some (.int .i64 rc)) (first | go_keep | exact keep3 (by assumption) (by assumption) | exact keep3 (by assumption) ⟨by assumption, by assumption, by assumption⟩) (first
    | (go_at_call 29
       refine (made_ok (by first | assumption | exact TreeAt.ext (by assumption) (by assumption) | exact TreeAt.ext (Ext.trans (by assumption) (by assumption)) (by assumption)) (by first | assumption | exact TreeAt.ext (by assumption) (by assumption) | exact TreeAt.ext (Ext.trans (by assumption) (by assumption)) (by assumption)) (by have := HZ.out; (try simp only [Tr.sz]); omega)).mono ?_
       rintro e wa ⟨v1, rfl, hv1, hea⟩))
  all_goals
    go_wp2_with fail
    go_ret
    exact ⟨_, rfl, hv1, hxd.trans (by first | exact Ext.trans (by assumption) hea | exact Ext.trans (by assumption) (Ext.trans (by assumption) hea))⟩
end Go.Proofs.Ythljopjpjjaadaa
