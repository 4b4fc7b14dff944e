/-
  Cuts in what a terminal is shown: the walk.
-/
import Derived.Test.YthphlghblmindaaTermX
import Derived.Test.YthphlghblmindaaEq
import Derived.Test.YthphlghblmindaaConcB
namespace Go.Proofs.Ythphlghblmindaa
open Go.RowKit
set_option linter.unusedVariables false
set_option linter.unusedSimpArgs false

set_option maxRecDepth 20000 in
set_option maxHeartbeats 2000000 in
theorem row_made (s : ByteArray) (a : Int) (w : World) (hs : s.size ≤ 65536) :
    Calls Try.prog 15 #[.string s, .int .i64 a] w fun e w' => (∃ B d, e = .returned (.agg #[.slice B s.size d, .int .i64 a]) ∧ OwnI w' w.heap.size B s.size d (chars s)) ∧ Ext w w' := by
  have HO := Lib.hid (of_ok s (w.alloc (.cells #[.slice none 0 0, .int .i64 0] 34)) hs)
  go_enter Try.func15, Try.ntmps15
  go_wp2_with fail
  refine HO.out.mono ?_
  rintro e w1 ⟨A1, c1, rfl, ho1, he1⟩
  have hb := (Blk.new w 34 #[.slice none 0 0, .int .i64 0]).ext he1
  have k0 := hb.cell 0
  have k1 := hb.cell 1
  have f0 := hb.frozen 0
  have f1 := hb.frozen 1
  simp only [List.getElem?_toArray, List.getElem?_cons_zero, List.getElem?_cons_succ] at k0 k1
  have HE : Hid (Ext w w1) := Lib.hid ((Ext.alloc _ _).trans he1)
  have HQ := Lib.hid ho1
  clear hb he1 ho1 HO
  go_wp2_with fail
  refine bodyPost_ret (by simp [results, Try.results15, go_sem, k0, k1]; try rfl) rfl ?_
  refine ⟨⟨A1, c1, rfl, ?_⟩, (HE.out.setCell (Nat.le_refl _) _).setCell (Nat.le_refl _) _⟩
  exact Own.lower (Own.setCell (Own.setCell HQ.out (by simp) _) (by simp) _) (by simp)

set_option maxRecDepth 20000 in
set_option maxHeartbeats 2000000 in
theorem sameRow_ok {A B : Option Addr} {n c m d : Nat} {l : List Int} {a : Int} {w : World} (h1 : Ints w A n c l) (h2 : Ints w B m d l) :
    Calls Try.prog 16 #[.agg #[.slice A n c, .int .i64 a], .agg #[.slice B m d, .int .i64 a]] w fun e w' => e = .returned (.bool true) ∧ Ext w w' := by
  have hx0 : Ext w ((w.alloc (.cells #[.slice A n c, .int .i64 a] 34)).alloc (.cells #[.slice B m d, .int .i64 a] 34)) := (Ext.alloc _ _).to_alloc _
  have HE := Lib.hid (equal_ext (h1.ext hx0) (h2.ext hx0))
  have HX := Lib.hid hx0
  clear h1 h2 hx0
  go_enter Try.func16, Try.ntmps16
  go_wp2_with fail
  refine HE.out.mono ?_
  rintro e w1 ⟨rfl, he⟩
  have HE2 := Lib.hid (HX.out.trans he)
  have hq : eqB l l = true := by simp [eqB]
  rw [hq]
  clear HE HX he hq
  go_wp2_with fail
  go_ret
  exact ⟨rfl, HE2.out⟩

theorem own_cap {w : World} {base n c : Nat} {A : Option Addr} {l : List Int} (h : OwnI w base A n c l) : A = none → c = 0 := by
  have hh : Own w base 3 1 A n c (l.map (Value.int .i64)) := h
  obtain ⟨h1, h2⟩ := hh
  rcases h2 with h2 | ⟨g, cap, cur, hv, hb, hg, r⟩
  · have := h2.1
    cases this
    intro _; rfl
  · cases hv
    intro hh; cases hh
theorem lit_good : ∀ k, k < 3 → goodC (gI (chars ⟨#[97, 98, 99]⟩) k) := by
  intro k hk
  have : k = 0 ∨ k = 1 ∨ k = 2 := by omega
  rcases this with rfl | rfl | rfl <;> exact ⟨by decide, by decide⟩
theorem newAtT {w : World} {g t : Nat} {cs : Array Value} (h : g = w.heap.size) : Blk (w.alloc (.cells cs t)) g t cs := by subst h; exact Blk.new _ _ _
theorem fin13 {wd : World} {g base s n d : Nat} {a : Int} {l : List Int} (hb : Blk wd g 34 #[.slice none 0 0, .int .i64 0]) (ho : OwnI wd base (some ⟨s, 0, none⟩) n d l) (hg : g < base) :
    Blk ((wd.setCell ⟨g, 0, none⟩ (.slice (some ⟨s, 0, none⟩) n d)).setCell ⟨g, 1, none⟩ (.int .i64 a)) g 34 #[.slice (some ⟨s, 0, none⟩) n d, .int .i64 a] ∧
    Ints ((wd.setCell ⟨g, 0, none⟩ (.slice (some ⟨s, 0, none⟩) n d)).setCell ⟨g, 1, none⟩ (.int .i64 a)) (some ⟨s, 0, none⟩) n d l :=
  ⟨by simpa using (hb.set_ 0 (.slice (some ⟨s, 0, none⟩) n d)).set_ 1 (.int .i64 a), OwnI.ints (Own.setCell (Own.setCell ho (by simpa using hg) _) (by simpa using hg) _)⟩

theorem tc_lit : showR (chars ⟨#[97, 98, 99]⟩, 3) [8, 120, 13, 121] = (chars ⟨#[121, 98, 120]⟩, 1) := by decide +kernel
end Go.Proofs.Ythphlghblmindaa
