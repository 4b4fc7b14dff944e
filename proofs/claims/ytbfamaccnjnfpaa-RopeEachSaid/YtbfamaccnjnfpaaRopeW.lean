/-
  The walks of package rope: size, tall, made.
-/
import Derived.Test.YtbfamaccnjnfpaaRopeM
import Derived.Deep.RegionHeld3
import Derived.StillTailTactics
namespace Go.Proofs.Ytbfamaccnjnfpaa
open Go.RowKit
set_option linter.unusedVariables false
set_option linter.unusedSimpArgs false

/-- A tree in memory. -/
def TreeAt (w : World) : Option Addr → Tr → Prop
  | a, .nil => a = none
  | a, .node l c r => ∃ g la ra, a = some ⟨g, 0, none⟩ ∧ Blk w g 36 #[.pointer la, .pointer ra, .int .i64 c, .int .i64 (Tr.node l c r).sz, .int .i64 (Tr.node l c r).ht] ∧ TreeAt w la l ∧ TreeAt w ra r
theorem TreeAt.ext {w w' : World} (he : Ext w w') : ∀ {t : Tr} {a : Option Addr}, TreeAt w a t → TreeAt w' a t
  | .nil, a, h => h
  | .node l c r, a, h => by
    obtain ⟨g, la, ra, h1, h2, h3, h4⟩ := h
    exact ⟨g, la, ra, h1, h2.ext he, TreeAt.ext he h3, TreeAt.ext he h4⟩

set_option maxHeartbeats 1000000 in
theorem size_ok {t : Tr} {a : Option Addr} {w : World} (h : TreeAt w a t) : Calls Try.prog 11 #[.pointer a] w fun e w' => e = .returned (.int .i64 t.sz) ∧ w = w' := by
  cases t with
  | nil =>
    obtain rfl := h
    go_enter Try.func11, Try.ntmps11
    go_wp2_with fail
    go_ret
    exact ⟨rfl, rfl⟩
  | node l c r =>
    obtain ⟨g, la, ra, rfl, hb, _, _⟩ := h
    have c3 := hb.cell 3
    simp only [List.getElem?_toArray, List.getElem?_cons_zero, List.getElem?_cons_succ] at c3
    clear hb
    generalize (Tr.node l c r).sz = s at *
    go_enter Try.func11, Try.ntmps11
    go_wp2_with fail
    go_ret
    exact ⟨rfl, rfl⟩

set_option maxHeartbeats 1000000 in
theorem tall_ok {t : Tr} {a : Option Addr} {w : World} (h : TreeAt w a t) : Calls Try.prog 12 #[.pointer a] w fun e w' => e = .returned (.int .i64 t.ht) ∧ w = w' := by
  cases t with
  | nil =>
    obtain rfl := h
    go_enter Try.func12, Try.ntmps12
    go_wp2_with fail
    go_ret
    exact ⟨rfl, rfl⟩
  | node l c r =>
    obtain ⟨g, la, ra, rfl, hb, _, _⟩ := h
    have c3 := hb.cell 4
    simp only [List.getElem?_toArray, List.getElem?_cons_zero, List.getElem?_cons_succ] at c3
    clear hb
    generalize (Tr.node l c r).ht = s at *
    go_enter Try.func12, Try.ntmps12
    go_wp2_with fail
    go_ret
    exact ⟨rfl, rfl⟩

set_option maxHeartbeats 2000000 in
theorem made_ok {l r : Tr} {lv rv : Option Addr} {c : Int} {w : World} (hl : TreeAt w lv l) (hr : TreeAt w rv r) (hz : l.sz + r.sz ≤ 1000000) :
    Calls Try.prog 10 #[.pointer lv, .int .i64 c, .pointer rv] w fun e w' => ∃ v, e = .returned (.pointer v) ∧ TreeAt w' v (.node l c r) ∧ Ext w w' := by
  have H1 := Lib.hid (size_ok hl)
  have H2 := Lib.hid (size_ok hr)
  have H3 := Lib.hid (tall_ok hl)
  have H4 := Lib.hid (tall_ok hr)
  have hl1 := Tr.ht_le l
  have hr1 := Tr.ht_le r
  have HL := Lib.hid hl
  have HR := Lib.hid hr
  have E1 : Hid ((l.sz : Int) + 1 + r.sz = ((Tr.node l c r).sz : Int)) := Lib.hid (by show _ = ((l.sz + 1 + r.sz : Nat) : Int); omega)
  have E2 : Hid ((1 : Int) + max (l.ht : Int) r.ht = ((Tr.node l c r).ht : Int)) := Lib.hid (by show _ = ((1 + max l.ht r.ht : Nat) : Int); omega)
  clear hl hr
  generalize l.sz = s1 at *
  generalize r.sz = s2 at *
  generalize l.ht = t1 at *
  generalize r.ht = t2 at *
  go_enter Try.func10, Try.ntmps10
  go_wp2_with fail
  refine H1.out.mono ?_
  rintro e w1 ⟨rfl, rfl⟩
  go_wp2_with fail
  refine H2.out.mono ?_
  rintro e w1 ⟨rfl, rfl⟩
  go_wp2_with fail
  refine H3.out.mono ?_
  rintro e w1 ⟨rfl, rfl⟩
  go_wp2_with fail
  refine H4.out.mono ?_
  rintro e w1 ⟨rfl, rfl⟩
  go_wp2_with fail
  all_goals
    go_ret
    refine ⟨_, rfl, ⟨w.heap.size, lv, rv, rfl, ?_, TreeAt.ext (Ext.alloc _ _) HL.out, TreeAt.ext (Ext.alloc _ _) HR.out⟩, Ext.alloc _ _⟩
    rw [← E1.out, ← E2.out]
    first
      | (rw [show max (t1 : Int) (t2 : Int) = (t2 : Int) by omega]; exact Blk.new w _ _)
      | (rw [show max (t1 : Int) (t2 : Int) = (t1 : Int) by omega]; exact Blk.new w _ _)

theorem tree_node {w : World} {a : Option Addr} {l r : Tr} {c : Int} (h : TreeAt w a (.node l c r)) : ∃ g la ra, a = some ⟨g, 0, none⟩ ∧ Blk w g 36 #[.pointer la, .pointer ra, .int .i64 c, .int .i64 (Tr.node l c r).sz, .int .i64 (Tr.node l c r).ht] ∧ TreeAt w la l ∧ TreeAt w ra r := h
theorem cells_node {w : World} {g T : Nat} {u0 u1 u2 u3 u4 : Value} (h : Blk w g T #[u0, u1, u2, u3, u4]) : w.cell? ⟨g, 0, none⟩ = some u0 ∧ w.cell? ⟨g, 1, none⟩ = some u1 ∧ w.cell? ⟨g, 2, none⟩ = some u2 :=
  ⟨by have := h.cell 0; simpa using this, by have := h.cell 1; simpa using this, by have := h.cell 2; simpa using this⟩
/-- Its numbers are read. -/
theorem tall_quiet {t : Tr} {a : Option Addr} {w : World} (h : TreeAt w a t) (n : Nat) : Calls Try.prog 12 #[.pointer a] (w.drewN n) fun e w'' => e = .returned (.int .i64 t.ht) ∧ ∃ m, w'' = w.drewN m :=
  (tall_ok (TreeAt.ext (Ext.drewN w n) h)).mono fun _ _ ⟨h1, h2⟩ => ⟨h1, n, h2.symm⟩

theorem keep3 {w w' : World} {p1 p2 p3 : Addr} {v1 v2 v3 : Value} (he : Ext w w') (h : w.cell? p1 = some v1 ∧ w.cell? p2 = some v2 ∧ w.cell? p3 = some v3) : w'.cell? p1 = some v1 ∧ w'.cell? p2 = some v2 ∧ w'.cell? p3 = some v3 := ⟨he.cell h.1, he.cell h.2.1, he.cell h.2.2⟩

theorem keep6 {w w' : World} {p1 p2 p3 p4 p5 p6 : Addr} {v1 v2 v3 v4 v5 v6 : Value} (he : Ext w w') (h : w.cell? p1 = some v1 ∧ w.cell? p2 = some v2 ∧ w.cell? p3 = some v3 ∧ w.cell? p4 = some v4 ∧ w.cell? p5 = some v5 ∧ w.cell? p6 = some v6) :
    w'.cell? p1 = some v1 ∧ w'.cell? p2 = some v2 ∧ w'.cell? p3 = some v3 ∧ w'.cell? p4 = some v4 ∧ w'.cell? p5 = some v5 ∧ w'.cell? p6 = some v6 := ⟨he.cell h.1, he.cell h.2.1, he.cell h.2.2.1, he.cell h.2.2.2.1, he.cell h.2.2.2.2.1, he.cell h.2.2.2.2.2⟩
end Go.Proofs.Ytbfamaccnjnfpaa
