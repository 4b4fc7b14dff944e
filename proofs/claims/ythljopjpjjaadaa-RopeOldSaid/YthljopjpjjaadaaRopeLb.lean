/-
  rope.level, the left one is taller, its right more: the walk.
-/
import Derived.Test.YthljopjpjjaadaaRopeW
namespace Go.Proofs.Ythljopjpjjaadaa
open Go.RowKit
set_option linter.unusedVariables false
set_option linter.unusedSimpArgs false

set_option maxHeartbeats 8000000 in
theorem lv_L2 {ll ml mr r : Tr} {lv rv : Option Addr} {lc mc c : Int} {w : World} (hl : TreeAt w lv (.node ll lc (.node ml mc mr))) (hr : TreeAt w rv r) (hz : Tr.sz (.node ll lc (.node ml mc mr)) + Tr.sz r ≤ 100000) (h1 : (Tr.node ll lc (.node ml mc mr)).ht > r.ht + 1) (h2 : ¬ (Tr.node ml mc mr).ht ≤ ll.ht) :
    Calls Try.prog 32 #[.pointer lv, .int .i64 c, .pointer rv] w fun e w' => ∃ v, e = .returned (.pointer v) ∧ TreeAt w' v (Tr.node (.node ll lc ml) mc (.node mr c r)) ∧ Ext w w' := by
  have H3 := Lib.hid (tall_ok hl)
  have H4 := Lib.hid (tall_ok hr)
  have hl1 := Tr.ht_le (Tr.node ll lc (.node ml mc mr))
  have hr1 := Tr.ht_le r
  have HZ : Hid (ll.sz + 1 + (ml.sz + 1 + mr.sz) + r.sz ≤ 100000) := Lib.hid hz
  obtain ⟨g, la, ra, rfl, hb, tl, tr⟩ := tree_node hl
  obtain ⟨k0, k1, k2⟩ := cells_node hb
  have HR := Lib.hid tr
  obtain ⟨g', ma, na, rfl, hb', tm, tn⟩ := tree_node tr
  obtain ⟨j0, j1, j2⟩ := cells_node hb'
  have d1 : (r.ht : Int) + 1 < ((Tr.node ll lc (.node ml mc mr)).ht : Int) := by omega
  have d2 : ¬ ((Tr.node ml mc mr).ht : Int) ≤ (ll.ht : Int) := by omega
  have b1 : r.ht ≤ 100000 := by omega
  have b2 : (Tr.node ll lc (.node ml mc mr)).ht ≤ 100000 := by omega
  have HL := Lib.hid tl
  have HRR := Lib.hid hr
  have HM := Lib.hid tm
  have HN := Lib.hid tn
  clear hl hr tl tr hb hz hl1 hr1 hb' tm tn h2
  go_enter Try.func32, Try.ntmps32
  go_wp2_with fail
  refine H3.out.mono ?_
  rintro e w1 ⟨rfl, rfl⟩
  go_wp2_with fail
  refine H4.out.mono ?_
  rintro e w1 ⟨rfl, rfl⟩
  go_wp2_with fail
  go_quiet ((go_at_call 24; first | exact tall_quiet HL.out _ | exact tall_quiet HR.out _))
  have k1q := (Ext.drewN w nq).cell k1
  go_wp2_with fail
  have hxq := Ext.drewN w nq
  have hxd := hxq.to_drew
  have hl := TreeAt.ext hxd HL.out
  have hm := TreeAt.ext hxd HM.out
  have hn := TreeAt.ext hxd HN.out
  have hrr := TreeAt.ext hxd HRR.out
  have q0 := hxq.cell k0
  have q1 := hxq.cell k1
  have q2 := hxq.cell k2
  have p0 := hxq.cell j0
  have p1 := hxq.cell j1
  have p2 := hxq.cell j2
  clear k0 k1 k2 hxq HL HR HRR H3 H4 HM HN j0 j1 j2 k1q
  revert hl hm hn hrr q0 q1 q2 p0 p1 p2 hxd
  generalize w.drewN nq = W0
  intro hxd hl hm hn hrr q0 q1 q2 p0 p1 p2
  go_region_held3 (fun w' => w'.cell? ⟨g, 0, none⟩ = some (.pointer la) ∧ w'.cell? ⟨g, 1, none⟩ = some (Value.pointer (some ⟨g', 0, none⟩)) ∧ w'.cell? ⟨g, 2, none⟩ = some (.int .i64 lc) ∧ w'.cell? ⟨g', 0, none⟩ = some (.pointer ma) ∧ w'.cell? ⟨g', 1, none⟩ = some (.pointer na) ∧ w'.cell? ⟨g', 2, none⟩ = some (.int .i64 mc)) (first | go_keep | exact keep6 (by assumption) (by assumption) | exact keep6 (by assumption) ⟨by assumption, by assumption, by assumption, by assumption, by assumption, by assumption⟩) (first
    | (go_at_call 29
       refine (made_ok (by first | assumption | exact TreeAt.ext (by assumption) (by assumption) | exact TreeAt.ext (Ext.trans (by assumption) (by assumption)) (by assumption)) (by first | assumption | exact TreeAt.ext (by assumption) (by assumption) | exact TreeAt.ext (Ext.trans (by assumption) (by assumption)) (by assumption)) (by have := HZ.out; (try simp only [Tr.sz]); omega)).mono ?_
       rintro e wa ⟨v1, rfl, hv1, hea⟩))
  all_goals
    go_wp2_with fail
    go_ret
    exact ⟨_, rfl, hv1, hxd.trans (by first | exact Ext.trans (by assumption) hea | exact Ext.trans (by assumption) (Ext.trans (by assumption) hea))⟩
end Go.Proofs.Ythljopjpjjaadaa
