/-
  rope.split, last, concat: the walks.
-/
import Derived.Test.YthljopjpjjaadaaRopeJ
namespace Go.Proofs.Ythljopjpjjaadaa
open Go.RowKit
set_option linter.unusedVariables false
set_option linter.unusedSimpArgs false

theorem split_sz {t : Tr} {k : Nat} (h : t.bal) : (t.split k).1.sz = min k t.sz ∧ (t.split k).2.sz = t.sz - k := by
  obtain ⟨_, _, h1, h2⟩ := Tr.split_spec (k := k) h
  have e1 := congrArg List.length h1
  have e2 := congrArg List.length h2
  rw [Tr.len, List.length_take, Tr.len] at e1
  rw [Tr.len, List.length_drop, Tr.len] at e2
  exact ⟨e1, e2⟩
theorem last_sz {t : Tr} (h : t.bal) (h0 : t ≠ .nil) : (Tr.last t).1.sz + 1 = t.sz := by
  have h1 := (Tr.last_spec h h0).2.1
  have e1 := congrArg List.length h1
  rw [List.length_append, Tr.len, Tr.len] at e1
  simpa using e1

def SplitP (t : Tr) : Prop := ∀ (k : Nat) (a : Option Addr) (w : World), TreeAt w a t → t.sz ≤ 50000 → t.bal → k ≤ 50000 →
    Calls Try.prog 26 #[.pointer a, .int .i64 k] w fun e w' => ∃ v1 v2, e = .returned (.tuple #[.pointer v1, .pointer v2]) ∧ TreeAt w' v1 (t.split k).1 ∧ TreeAt w' v2 (t.split k).2 ∧ Ext w w'

set_option maxHeartbeats 4000000 in
theorem split_nil : SplitP .nil := by
  intro k a w h hz hb hk
  obtain rfl : a = none := h
  go_enter Try.func26, Try.ntmps26
  go_wp2_with fail
  go_ret2
  exact ⟨none, none, rfl, rfl, rfl, Ext.refl _⟩

set_option maxHeartbeats 8000000 in
theorem split_L {l r : Tr} {c : Int} {k : Nat} {a : Option Addr} {w : World} (IH : Hid (SplitP l)) (h : TreeAt w a (.node l c r)) (hz : Tr.sz (.node l c r) ≤ 50000) (hb : Tr.bal (.node l c r)) (hk : k ≤ l.sz) :
    Calls Try.prog 26 #[.pointer a, .int .i64 k] w fun e w' => ∃ v1 v2, e = .returned (.tuple #[.pointer v1, .pointer v2]) ∧ TreeAt w' v1 (l.split k).1 ∧ TreeAt w' v2 (Tr.join (l.split k).2 c r) ∧ Ext w w' := by
  obtain ⟨g, la, ra, rfl, hbk, tl, tr⟩ := tree_node h
  obtain ⟨k0, k1, k2⟩ := cells_node hbk
  have hsz : (Tr.node l c r).sz = l.sz + 1 + r.sz := rfl
  have H3 := Lib.hid (size_ok tl)
  have HS := Lib.hid (IH.out k la w tl (by omega) hb.1 (by omega))
  have HZ : Hid ((l.split k).2.sz + r.sz ≤ 50000) := Lib.hid (by have := (split_sz (k := k) hb.1).2; omega)
  have BL : Hid ((l.split k).2.bal ∧ r.bal) := Lib.hid ⟨(Tr.split_spec hb.1).2.1, hb.2.1⟩
  have hk' : (k : Int) ≤ (l.sz : Int) := by omega
  have HRR := Lib.hid tr
  clear h hz hb hbk tl tr hsz hk IH
  go_enter Try.func26, Try.ntmps26
  go_wp2_with fail
  refine H3.out.mono ?_
  rintro e w1 ⟨rfl, rfl⟩
  go_wp2_with fail
  refine HS.out.mono ?_
  rintro e w1 ⟨v1, v2, rfl, t1, t2, he1⟩
  have q0 := he1.cell k0
  have q1 := he1.cell k1
  have q2 := he1.cell k2
  have hxd := he1.to_drew
  have u1 := TreeAt.ext (Ext.drew w1) t1
  have u2 := TreeAt.ext (Ext.drew w1) t2
  have u3 := TreeAt.ext hxd HRR.out
  clear k0 k1 k2 t1 t2 HS H3 he1 HRR
  go_wp2_with fail
  go_region_held3 (fun w' => w'.cell? ⟨g, 0, none⟩ = some (.pointer la) ∧ w'.cell? ⟨g, 1, none⟩ = some (.pointer ra) ∧ w'.cell? ⟨g, 2, none⟩ = some (.int .i64 c)) (first | go_keep | exact keep3 (by assumption) (by assumption) | exact keep3 (by assumption) ⟨by assumption, by assumption, by assumption⟩) (first
    | (go_at_call 30
       refine (join_ok u2 u3 HZ.out BL.out.1 BL.out.2).mono ?_
       rintro e wa ⟨v3, rfl, hv3, hea⟩))
  all_goals
    go_wp2_with fail
    go_ret2
    exact ⟨v1, v3, rfl, TreeAt.ext hea u1, hv3, hxd.trans hea⟩

set_option maxHeartbeats 8000000 in
theorem split_R {l r : Tr} {c : Int} {k : Nat} {a : Option Addr} {w : World} (IH : Hid (SplitP r)) (h : TreeAt w a (.node l c r)) (hz : Tr.sz (.node l c r) ≤ 50000) (hb : Tr.bal (.node l c r)) (hk : ¬ k ≤ l.sz) (hk5 : k ≤ 50000) :
    Calls Try.prog 26 #[.pointer a, .int .i64 k] w fun e w' => ∃ v1 v2, e = .returned (.tuple #[.pointer v1, .pointer v2]) ∧ TreeAt w' v1 (Tr.join l c (r.split (k - l.sz - 1)).1) ∧ TreeAt w' v2 (r.split (k - l.sz - 1)).2 ∧ Ext w w' := by
  obtain ⟨g, la, ra, rfl, hbk, tl, tr⟩ := tree_node h
  obtain ⟨k0, k1, k2⟩ := cells_node hbk
  have hsz : (Tr.node l c r).sz = l.sz + 1 + r.sz := rfl
  have H3 := Lib.hid (size_ok tl)
  obtain ⟨x, hx⟩ : ∃ x, k = l.sz + (x + 1) := ⟨k - l.sz - 1, by omega⟩
  have ex : k - l.sz - 1 = x := by omega
  rw [ex]
  have HS := Lib.hid (IH.out x ra w tr (by omega) hb.2.1 (by omega))
  have HZ : Hid (l.sz + (r.split x).1.sz ≤ 50000) := Lib.hid (by have := (split_sz (k := x) hb.2.1).1; omega)
  have BL : Hid (l.bal ∧ (r.split x).1.bal) := Lib.hid ⟨hb.1, (Tr.split_spec hb.2.1).1⟩
  have hk' : ¬ (k : Int) ≤ (l.sz : Int) := by omega
  have b1 : l.sz ≤ 50000 := by omega
  have HE : Hid ((k : Int) - l.sz - 1 = (x : Int)) := Lib.hid (by omega)
  have HRR := Lib.hid tl
  clear h hz hb hbk tl tr hsz hk IH hx ex
  go_enter Try.func26, Try.ntmps26
  go_wp2_with fail
  refine H3.out.mono ?_
  rintro e w1 ⟨rfl, rfl⟩
  go_wp2_with fail
  rw [HE.out]
  refine HS.out.mono ?_
  rintro e w1 ⟨v1, v2, rfl, t1, t2, he1⟩
  have q0 := he1.cell k0
  have q1 := he1.cell k1
  have q2 := he1.cell k2
  have hxd := he1.to_drew
  have u1 := TreeAt.ext (Ext.drew w1) t1
  have u2 := TreeAt.ext (Ext.drew w1) t2
  have u3 := TreeAt.ext hxd HRR.out
  clear k0 k1 k2 t1 t2 HS H3 he1 HRR
  go_wp2_with fail
  go_region_held3 (fun w' => w'.cell? ⟨g, 0, none⟩ = some (.pointer la) ∧ w'.cell? ⟨g, 1, none⟩ = some (.pointer ra) ∧ w'.cell? ⟨g, 2, none⟩ = some (.int .i64 c)) (first | go_keep | exact keep3 (by assumption) (by assumption) | exact keep3 (by assumption) ⟨by assumption, by assumption, by assumption⟩) (first
    | (go_at_call 30
       refine (join_ok u3 u1 HZ.out BL.out.1 BL.out.2).mono ?_
       rintro e wa ⟨v3, rfl, hv3, hea⟩))
  all_goals
    go_wp2_with fail
    go_ret2
    exact ⟨v3, v2, rfl, hv3, TreeAt.ext hea u2, hxd.trans hea⟩

theorem split_ok : ∀ t : Tr, SplitP t
  | .nil => split_nil
  | .node l c r => by
    intro k a w h hz hb hk
    by_cases h1 : k ≤ l.sz
    · have e : (Tr.node l c r).split k = ((l.split k).1, Tr.join (l.split k).2 c r) := by show (if _ then _ else _) = _; rw [if_pos h1]
      rw [e]
      exact split_L (Lib.hid (split_ok l)) h hz hb h1
    · have e : (Tr.node l c r).split k = (Tr.join l c (r.split (k - l.sz - 1)).1, (r.split (k - l.sz - 1)).2) := by show (if _ then _ else _) = _; rw [if_neg h1]
      rw [e]
      exact split_R (Lib.hid (split_ok r)) h hz hb h1 hk

def LastP (t : Tr) : Prop := ∀ (a : Option Addr) (w : World), TreeAt w a t → t.sz ≤ 50000 → t.bal → t ≠ .nil →
    Calls Try.prog 31 #[.pointer a] w fun e w' => ∃ v, e = .returned (.tuple #[.pointer v, .int .i64 (Tr.last t).2]) ∧ TreeAt w' v (Tr.last t).1 ∧ Ext w w'

set_option maxHeartbeats 4000000 in
theorem last_one {l : Tr} {c : Int} {a : Option Addr} {w : World} (h : TreeAt w a (.node l c .nil)) :
    Calls Try.prog 31 #[.pointer a] w fun e w' => ∃ v, e = .returned (.tuple #[.pointer v, .int .i64 c]) ∧ TreeAt w' v l ∧ Ext w w' := by
  obtain ⟨g, la, ra, rfl, hbk, tl, tr⟩ := tree_node h
  obtain ⟨k0, k1, k2⟩ := cells_node hbk
  obtain rfl : ra = none := tr
  have HL := Lib.hid tl
  clear h hbk tl
  go_enter Try.func31, Try.ntmps31
  go_wp2_with fail
  go_quiet (fail)
  go_wp2_with fail
  go_ret2
  exact ⟨la, rfl, TreeAt.ext (Ext.drewN _ _) HL.out, Ext.drewN _ _⟩

set_option maxHeartbeats 8000000 in
theorem last_more {l a' d' : Tr} {c b' : Int} {a : Option Addr} {w : World} (IH : Hid (LastP (.node a' b' d'))) (h : TreeAt w a (.node l c (.node a' b' d'))) (hz : Tr.sz (.node l c (.node a' b' d')) ≤ 50000) (hb : Tr.bal (.node l c (.node a' b' d'))) :
    Calls Try.prog 31 #[.pointer a] w fun e w' => ∃ v, e = .returned (.tuple #[.pointer v, .int .i64 (Tr.last (.node a' b' d')).2]) ∧ TreeAt w' v (Tr.level l c (Tr.last (.node a' b' d')).1) ∧ Ext w w' := by
  obtain ⟨g, la, ra, rfl, hbk, tl, tr⟩ := tree_node h
  obtain ⟨k0, k1, k2⟩ := cells_node hbk
  have hsz : (Tr.node l c (.node a' b' d')).sz = l.sz + 1 + (Tr.node a' b' d').sz := rfl
  have HS := Lib.hid (IH.out ra w tr (by omega) hb.2.1 (by simp))
  have HZ : Hid (l.sz + (Tr.last (.node a' b' d')).1.sz ≤ 100000) := Lib.hid (by have := last_sz hb.2.1 (by simp); omega)
  have HRR := Lib.hid tl
  obtain ⟨g', ma, na, rfl, _⟩ := tree_node tr
  clear h hz hb hbk tl tr hsz IH
  go_enter Try.func31, Try.ntmps31
  go_wp2_with fail
  refine HS.out.mono ?_
  rintro e w1 ⟨v1, rfl, t1, he1⟩
  have q0 := he1.cell k0
  have q1 := he1.cell k1
  have q2 := he1.cell k2
  have hxd := he1.to_drew
  have u1 := TreeAt.ext (Ext.drew w1) t1
  have u3 := TreeAt.ext hxd HRR.out
  clear k0 k1 k2 t1 HS he1 HRR
  go_wp2_with fail
  go_region_held3 (fun w' => w'.cell? ⟨g, 0, none⟩ = some (.pointer la) ∧ w'.cell? ⟨g, 2, none⟩ = some (.int .i64 c)) (first | go_keep | (exact ⟨Ext.cell (by assumption) (by first | assumption | exact And.left (by assumption)), Ext.cell (by assumption) (by first | assumption | exact And.right (by assumption))⟩)) (first
    | (go_at_call 32
       refine (level_ok u3 u1 HZ.out).mono ?_
       rintro e wa ⟨v3, rfl, hv3, hea⟩))
  all_goals
    go_wp2_with fail
    go_ret2
    exact ⟨v3, rfl, hv3, hxd.trans hea⟩

theorem last_ok : ∀ t : Tr, LastP t
  | .nil => fun _ _ _ _ _ h => absurd rfl h
  | .node l c .nil => fun a w h _ _ _ => last_one h
  | .node l c (.node a' b' d') => fun a w h hz hb _ => last_more (Lib.hid (last_ok (.node a' b' d'))) h hz hb

set_option maxHeartbeats 4000000 in
theorem concat_ok {l r : Tr} {lv rv : Option Addr} {w : World} (hl : TreeAt w lv l) (hr : TreeAt w rv r) (hz : l.sz + r.sz ≤ 50000) (bl : l.bal) (br : r.bal) :
    Calls Try.prog 27 #[.pointer lv, .pointer rv] w fun e w' => ∃ v, e = .returned (.pointer v) ∧ TreeAt w' v (Tr.concat l r) ∧ Ext w w' := by
  cases l with
  | nil =>
    obtain rfl : lv = none := hl
    have HR := Lib.hid hr
    clear hr
    go_enter Try.func27, Try.ntmps27
    go_wp2_with fail
    go_ret
    exact ⟨rv, rfl, HR.out, Ext.refl _⟩
  | node a b d =>
    have HS := Lib.hid (last_ok (.node a b d) lv w hl (by omega) bl (by simp))
    have HZ : Hid ((Tr.last (.node a b d)).1.sz + r.sz ≤ 50000) := Lib.hid (by have := last_sz bl (by simp); omega)
    have BL : Hid ((Tr.last (.node a b d)).1.bal ∧ r.bal) := Lib.hid ⟨(Tr.last_spec bl (by simp)).1, br⟩
    have HR := Lib.hid hr
    obtain ⟨g, la, ra, rfl, _⟩ := tree_node hl
    clear hl hr hz bl br
    go_enter Try.func27, Try.ntmps27
    go_wp2_with fail
    refine HS.out.mono ?_
    rintro e w1 ⟨v1, rfl, t1, he1⟩
    have HJ := Lib.hid (join_ok (c := (Tr.last (.node a b d)).2) t1 (TreeAt.ext he1 HR.out) HZ.out BL.out.1 BL.out.2)
    clear t1 HS
    go_wp2_with fail
    refine HJ.out.mono ?_
    rintro e w2 ⟨v2, rfl, t2, he2⟩
    go_wp2_with fail
    go_ret
    exact ⟨v2, rfl, t2, he1.trans he2⟩
end Go.Proofs.Ythljopjpjjaadaa
