/-
  The walks of package undo at int.
-/
import Derived.Test.YtbhbakejpgndmaaClone
import Derived.IntWalk
namespace Go.Proofs.Ytbhbakejpgndmaa
open Go.RowKit
set_option linter.unusedVariables false
set_option linter.unusedSimpArgs false

/-- A history that can be read. -/
structure HistV (w : World) (A : Option Addr) (n c : Nat) (B : Option Addr) (m d : Nat) (p f : List Int) : Prop where
  hp : Ints w A n c p
  hf : Ints w B m d f
  hA : A = none → c = 0
  hB : B = none → d = 0
theorem HistV.ext {w w' : World} {A B : Option Addr} {n c m d : Nat} {p f : List Int} (h : HistV w A n c B m d p f) (he : Ext w w') : HistV w' A n c B m d p f := ⟨h.hp.ext he, h.hf.ext he, h.hA, h.hB⟩

/-- A history that the call has made. -/
structure HistO (w : World) (base : Nat) (A : Option Addr) (n c : Nat) (B : Option Addr) (m d : Nat) (p f : List Int) : Prop where
  hp : OwnI w base A n c p
  hf : OwnI w base B m d f
  hA : A = none → c = 0
  hB : B = none → d = 0
theorem HistO.v {w : World} {base : Nat} {A B : Option Addr} {n c m d : Nat} {p f : List Int} (h : HistO w base A n c B m d p f) : HistV w A n c B m d p f := ⟨h.hp.ints, h.hf.ints, h.hA, h.hB⟩
theorem HistO.ext {w w' : World} {base : Nat} {A B : Option Addr} {n c m d : Nat} {p f : List Int} (h : HistO w base A n c B m d p f) (he : Ext w w') : HistO w' base A n c B m d p f := ⟨h.hp.ext he, h.hf.ext he, h.hA, h.hB⟩
theorem HistO.setCell {w : World} {base : Nat} {A B : Option Addr} {n c m d : Nat} {p f : List Int} (h : HistO w base A n c B m d p f) {a : Addr} (ha : a.block < base) (u : Value) : HistO (w.setCell a u) base A n c B m d p f :=
  ⟨Own.setCell h.hp ha u, Own.setCell h.hf ha u, h.hA, h.hB⟩

/-- Two rows of the call's own, apart. -/
def Apart (A : Option Addr) (n c : Nat) (B : Option Addr) (m d : Nat) : Prop := (Value.slice A n c).ownBlock = none ∨ (Value.slice A n c).ownBlock ≠ (Value.slice B m d).ownBlock

theorem apart_of {w w1 w2 : World} {A B : Option Addr} {n c m d : Nat} {p f : List Int} (h1 : OwnI w1 w.heap.size A n c p) (h2 : OwnI w2 w1.heap.size B m d f) : Apart A n c B m d ∧ Apart B m d A n c := by
  constructor
  · rcases hA : (Value.slice A n c).ownBlock with _ | g
    · exact .inl hA
    · right
      intro e
      have b1 := Own.blk h1 g hA
      have b2 := Own.blk h2 g (by rw [← e, hA])
      omega
  · rcases hB : (Value.slice B m d).ownBlock with _ | g
    · exact .inl hB
    · right
      intro e
      have b1 := Own.blk h2 g hB
      have b2 := Own.blk h1 g (by rw [← e, hB])
      omega

/-- A slot's two cells, written. -/
theorem slot_facts {w W : World} {q T : Nat} {x0 y0 : Value} (hb : Blk W q T #[x0, y0]) (he : Ext w W) (hq : w.heap.size ≤ q) :
    (∀ x y : Value, ((W.setCell ⟨q, 0, none⟩ x).setCell ⟨q, 1, none⟩ y).cell? ⟨q, 0, none⟩ = some x) ∧ (∀ x y : Value, ((W.setCell ⟨q, 0, none⟩ x).setCell ⟨q, 1, none⟩ y).cell? ⟨q, 1, none⟩ = some y) ∧
    (∀ x y : Value, Ext w ((W.setCell ⟨q, 0, none⟩ x).setCell ⟨q, 1, none⟩ y)) ∧ (∀ x : Value, Ext w (W.setCell ⟨q, 0, none⟩ x)) ∧ (∀ y : Value, Ext w (W.setCell ⟨q, 1, none⟩ y)) := by
  refine ⟨fun x y => ?_, fun x y => ?_, fun x y => (he.setCell hq _).setCell hq _, fun x => he.setCell hq _, fun x => he.setCell hq _⟩
  · have := ((hb.set_ 0 x).set_ 1 y).cell 0
    simpa using this
  · have := ((hb.set_ 0 x).set_ 1 y).cell 1
    simpa using this
theorem Ext.frozen {w w' : World} (h : Ext w w') {p : Addr} {v : Value} (hc : w.cell? p = some v) (hf : w.frozen? p = false) : w'.frozen? p = false := (Below.frozen h (World.block_lt_of_cell? w p hc)).trans hf
theorem Ext.some_ {w w' : World} (h : Ext w w') {p : Addr} (hc : (w.cell? p).isSome = true) : (w'.cell? p).isSome = true := by
  obtain ⟨v, hv⟩ := Option.isSome_iff_exists.1 hc
  rw [h.cell hv]; rfl
theorem Ext.frozen2 {w w' : World} (h : Ext w w') {p : Addr} (hc : (w.cell? p).isSome = true) (hf : w.frozen? p = false) : w'.frozen? p = false := by
  obtain ⟨v, hv⟩ := Option.isSome_iff_exists.1 hc
  exact h.frozen hv hf
theorem keep42 {w w' : World} {p1 p2 p3 p4 : Addr} {v1 v2 : Value} (he : Ext w w') (h : w.cell? p1 = some v1 ∧ w.cell? p2 = some v2 ∧ (w.cell? p3).isSome = true ∧ (w.cell? p4).isSome = true ∧ w.frozen? p3 = false ∧ w.frozen? p4 = false) :
    w'.cell? p1 = some v1 ∧ w'.cell? p2 = some v2 ∧ (w'.cell? p3).isSome = true ∧ (w'.cell? p4).isSome = true ∧ w'.frozen? p3 = false ∧ w'.frozen? p4 = false :=
  ⟨he.cell h.1, he.cell h.2.1, he.some_ h.2.2.1, he.some_ h.2.2.2.1, he.frozen2 h.2.2.1 h.2.2.2.2.1, he.frozen2 h.2.2.2.1 h.2.2.2.2.2⟩

set_option maxHeartbeats 2000000 in
theorem copied_ok {A B : Option Addr} {n c m d : Nat} {p f : List Int} {w : World} (h : HistV w A n c B m d p f) (h1 : n * 8 ≤ 140737488355328) (h2 : m * 8 ≤ 140737488355328) :
    Calls Try.prog 38 #[.agg #[.slice A n c, .slice B m d]] w fun e w' => ∃ A' c' B' d', e = .returned (.agg #[.slice A' n c', .slice B' m d']) ∧ OwnI w' w.heap.size A' n c' p ∧ OwnI w' w.heap.size B' m d' f ∧ Apart A' n c' B' m d' ∧ Apart B' m d' A' n c' ∧ (A' = none → c' = 0) ∧ (B' = none → d' = 0) ∧ Ext w w' := by
  have H1 := Lib.hid h1
  have H2 := Lib.hid h2
  have HH := Lib.hid h
  clear h1 h2 h
  have hx0 : Ext w ((w.alloc (.cells #[.slice A n c, .slice B m d] 24)).alloc (.cells #[.slice none 0 0, .slice none 0 0] 24)) := (Ext.alloc _ _).to_alloc _
  have hb1 := (Blk.new w 24 #[.slice A n c, .slice B m d]).ext (Ext.alloc _ (.cells #[.slice none 0 0, .slice none 0 0] 24))
  have hb2 : Blk ((w.alloc (.cells #[.slice A n c, .slice B m d] 24)).alloc (.cells #[.slice none 0 0, .slice none 0 0] 24)) (w.heap.size + 1) 24 #[.slice none 0 0, .slice none 0 0] := by
    simpa using Blk.new (w.alloc (.cells #[.slice A n c, .slice B m d] 24)) 24 #[.slice none 0 0, .slice none 0 0]
  go_enter Try.func38, Try.ntmps38
  go_wp2_with fail
  revert hx0 hb1 hb2
  generalize (w.alloc (.cells #[.slice A n c, .slice B m d] 24)).alloc (.cells #[.slice none 0 0, .slice none 0 0] 24) = W0
  intro hx0 hb1 hb2
  have c0 := hb1.cell 0
  have c1 := hb1.cell 1
  have f0 := hb2.frozen 0
  have f1 := hb2.frozen 1
  have c4 := hb2.cell 0
  have c5 := hb2.cell 1
  simp only [List.getElem?_toArray, List.getElem?_cons_zero, List.getElem?_cons_succ] at c0 c1 c4 c5
  go_region_held3 (fun w' => w'.cell? ⟨w.heap.size, 0, none⟩ = some (.slice A n c) ∧ w'.cell? ⟨w.heap.size, 1, none⟩ = some (.slice B m d)) (first | go_keep | (exact ⟨Ext.cell (by assumption) (by first | assumption | exact And.left (by assumption)), Ext.cell (by assumption) (by first | assumption | exact And.right (by assumption))⟩)) (first
    | (go_at_call 24
       first
         | (refine (clone_ok (A := A) (n := n) (c := c) (l := p) (HH.out.hp.ext (by first | exact hx0.to_drew | exact hx0.to_drew.trans (by assumption))) HH.out.hA H1.out).mono ?_
            rintro e wa ⟨A1, c1, rfl, hA1, nA1, hea⟩
            have q4 := Ext.cell (p := ⟨w.heap.size + 1, 0, none⟩) (v := .slice none 0 0) hea (by assumption)
            have q5 := Ext.cell (p := ⟨w.heap.size + 1, 1, none⟩) (v := .slice none 0 0) hea (by assumption)
            have q6 := Ext.frozen (p := ⟨w.heap.size + 1, 0, none⟩) (v := .slice none 0 0) hea (by assumption) (by assumption)
            have q7 := Ext.frozen (p := ⟨w.heap.size + 1, 1, none⟩) (v := .slice none 0 0) hea (by assumption) (by assumption))
         | (refine (clone_ok (A := B) (n := m) (c := d) (l := f) (HH.out.hf.ext (by first | exact hx0.to_drew | exact hx0.to_drew.trans (by assumption))) HH.out.hB H2.out).mono ?_
            rintro e wb ⟨B1, d1, rfl, hB1, nB1, heb⟩
            have q4 := Ext.cell (p := ⟨w.heap.size + 1, 0, none⟩) (v := .slice none 0 0) heb (by assumption)
            have q5 := Ext.cell (p := ⟨w.heap.size + 1, 1, none⟩) (v := .slice none 0 0) heb (by assumption)
            have q6 := Ext.frozen (p := ⟨w.heap.size + 1, 0, none⟩) (v := .slice none 0 0) heb (by assumption) (by assumption)
            have q7 := Ext.frozen (p := ⟨w.heap.size + 1, 1, none⟩) (v := .slice none 0 0) heb (by assumption) (by assumption))))
  all_goals
    go_wp2_with fail
    have hbF := hb2.ext (by first | exact (Ext.drew W0).trans ((by assumption : Ext W0.drew _).trans (by assumption)) | exact (Ext.drew W0).trans (Ext.trans (by assumption) (by assumption)))
    obtain ⟨c6, c7, hx, hx1, hx2⟩ := slot_facts hbF (hx0.to_drew.trans (Ext.trans (by assumption) (by assumption))) (by omega)
    refine bodyPost_ret (by simp [results, Try.results38, go_sem, c6, c7]; try rfl) rfl ?_
    have hsz := hx0.hsize
    first
      | (have hz := (Ext.trans (Ext.drew W0) hea).hsize
         have hap := apart_of (w := W0.drew) hA1 hB1
         have o1 := ((hA1.ext heb).setCell (p := ⟨w.heap.size + 1, 0, none⟩) (by have := hb2.lt; simpa using this) (.slice A1 n c1)).setCell (p := ⟨w.heap.size + 1, 1, none⟩) (by have := hb2.lt; simpa using this) (.slice B1 m d1)
         have o2 := (hB1.setCell (p := ⟨w.heap.size + 1, 0, none⟩) (by have := hb2.lt; have := hea.hsize; simp at this ⊢; omega) (.slice A1 n c1)).setCell (p := ⟨w.heap.size + 1, 1, none⟩) (by have := hb2.lt; have := hea.hsize; simp at this ⊢; omega) (.slice B1 m d1)
         exact ⟨A1, c1, B1, d1, rfl, Own.lower o1 hsz, Own.lower o2 (Nat.le_trans hsz hz), hap.1, hap.2, nA1, nB1, hx _ _⟩)
      | (have hz := (Ext.trans (Ext.drew W0) heb).hsize
         have hap := apart_of (w := W0.drew) hB1 hA1
         have o2 := ((hB1.ext hea).setCell (p := ⟨w.heap.size + 1, 0, none⟩) (by have := hb2.lt; simpa using this) (.slice A1 n c1)).setCell (p := ⟨w.heap.size + 1, 1, none⟩) (by have := hb2.lt; simpa using this) (.slice B1 m d1)
         have o1 := (hA1.setCell (p := ⟨w.heap.size + 1, 0, none⟩) (by have := hb2.lt; have := heb.hsize; simp at this ⊢; omega) (.slice A1 n c1)).setCell (p := ⟨w.heap.size + 1, 1, none⟩) (by have := hb2.lt; have := heb.hsize; simp at this ⊢; omega) (.slice B1 m d1)
         exact ⟨A1, c1, B1, d1, rfl, Own.lower o1 (Nat.le_trans hsz hz), Own.lower o2 hsz, hap.2, hap.1, nA1, nB1, hx _ _⟩)

set_option maxHeartbeats 1000000 in
theorem newest_ok {A : Option Addr} {n c : Nat} {l : List Int} {w : World} (hl : Ints w A n c l) (h0 : 0 < n) :
    Calls Try.prog 39 #[.slice A n c] w fun e w' => e = .returned (.tuple #[.int .i64 (gI l (n - 1)), .slice A (n - 1) c]) ∧ ∃ k, w' = w.drewN k := by
  have hnc := hl.ncap
  have hcm := hl.nmax
  unfold maxLen at hcm
  obtain ⟨ad, rfl, hc⟩ := hl.at_ h0
  have c1 := hc (n - 1) (by omega)
  obtain ⟨m, rfl⟩ : ∃ m, n = m + 1 := ⟨n - 1, by omega⟩
  rw [show m + 1 - 1 = m by omega] at c1 ⊢
  have hw : IntKind.i64.wrap (((m + 1 : Nat) : Int) - 1) = (m : Int) := by rw [IntWalk.i64_in _ (by omega)]; omega
  have hi1 : (0 : Int) ≤ (m : Int) := by omega
  have hi2 : (m : Int) < ((m + 1 : Nat) : Int) := by omega
  clear hc
  go_enter Try.func39, Try.ntmps39
  go_wp2_with fail
  go_quiet (fail)
  go_wp2_with fail
  go_ret2

  exact ⟨rfl, nq, rfl⟩
end Go.Proofs.Ytbhbakejpgndmaa
