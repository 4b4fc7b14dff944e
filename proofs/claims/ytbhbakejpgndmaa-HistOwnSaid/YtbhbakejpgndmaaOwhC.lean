/-
  Lines that are ample: rows of the call's own, each with two numbers behind it.
-/
import Derived.Test.YtbhbakejpgndmaaOwhB
namespace Go.Proofs.Ytbhbakejpgndmaa
open Go.RowKit
set_option linter.unusedVariables false

theorem Amp.kept {w w' : World} {b : Nat} {v : Value} {l : List Int} {x : Int} {row : Option Nat} (h : Amp w b v l x) (hg : w.grownBy w' row) (hne : v.ownBlock = none ∨ v.ownBlock ≠ row) : Amp w' b v l x := by
  obtain ⟨A, n, c, rfl, h1, h2⟩ := h
  exact ⟨A, n, c, rfl, Own.kept h1 hg hne, h2⟩
theorem Amp.setCell_ne {w : World} {b : Nat} {v : Value} {l : List Int} {x : Int} (h : Amp w b v l x) {p : Addr} (hp : v.ownBlock ≠ some p.block) (u : Value) : Amp (w.setCell p u) b v l x := by
  obtain ⟨A, n, c, rfl, h1, h2⟩ := h
  exact ⟨A, n, c, rfl, Own.setCell_ne h1 hp u, h2⟩
theorem Amp.regOw {w : World} {b : Nat} {v : Value} {l : List Int} {x : Int} (h : Amp w b v l x) (hl : l.length * 8 ≤ 140737488355328) : RegOw w b v l := by
  obtain ⟨A, n, c, rfl, h1⟩ := h.own
  exact ⟨some A, n, c, rfl, h1, (fun e => by cases e), (by have := h1.ints.len; omega)⟩
theorem Amp.regSl {w : World} {b : Nat} {v : Value} {l : List Int} {x : Int} (h : Amp w b v l x) (hl : l.length * 8 ≤ 140737488355328) : RegSl w v l := (h.regOw hl).sl

/-- Ample lines, none in a row's block. -/
def LnA (w : World) (b : Nat) (row : Option Nat) (xs : List Value) (ls : List (List Int)) : Prop := xs.length = ls.length ∧ ∀ i, i < ls.length → ∃ v, xs[i]? = some v ∧ Amp w b v (gL ls i) 77 ∧ (gL ls i).length * 8 ≤ 140737488355328 ∧ (v.ownBlock = none ∨ v.ownBlock ≠ row)
/-- A slice of ample lines. -/
def LnsA (w : World) (b : Nat) (A : Option Addr) (n c : Nat) (ls : List (List Int)) : Prop := ∃ xs, Own w b 22 1 A n c xs ∧ LnA w b (Value.slice A n c).ownBlock xs ls ∧ (A = none → c = 0)
section
variable {w w' : World} {A : Option Addr} {n c b : Nat} {ls : List (List Int)} {xs : List Value} {row : Option Nat}
theorem LnA.lnO (h : LnA w b row xs ls) : LnO w b row xs ls := ⟨h.1, fun i hi => by obtain ⟨v, h1, h2, h3, h4⟩ := h.2 i hi; exact ⟨v, h1, h2.regOw h3, h4⟩⟩
theorem LnsA.lnsO (h : LnsA w b A n c ls) : LnsO w b A n c ls := by obtain ⟨xs, h1, h2, h3⟩ := h; exact ⟨xs, h1, h2.lnO, h3⟩
theorem LnA.ext (h : LnA w b row xs ls) (he : Ext w w') : LnA w' b row xs ls := ⟨h.1, fun i hi => by obtain ⟨v, h1, h2, h3⟩ := h.2 i hi; exact ⟨v, h1, h2.ext he, h3⟩⟩
theorem LnA.setCell (h : LnA w b row xs ls) {p : Addr} (hp : p.block < b) (u : Value) : LnA (w.setCell p u) b row xs ls := ⟨h.1, fun i hi => by obtain ⟨v, h1, h2, h3⟩ := h.2 i hi; exact ⟨v, h1, h2.setCell hp u, h3⟩⟩
theorem LnA.grown {row' : Option Nat} (h : LnA w b row xs ls) (hg : w.grownBy w' row) (hr : row' = row ∨ ∃ g, w.heap.size ≤ g ∧ row' = some g) : LnA w' b row' xs ls :=
  ⟨h.1, fun i hi => by
    obtain ⟨v, h1, h2, h4, h3⟩ := h.2 i hi
    refine ⟨_, h1, h2.kept hg h3, h4, ?_⟩
    rcases hr with rfl | ⟨g, hgs, rfl⟩
    · exact h3
    · cases hb : v.ownBlock with
      | none => exact .inl rfl
      | some g' =>
        have := (h2.blk g' hb).2
        exact .inr (fun e => by injection e with e; omega)⟩
theorem LnA.snoc {l : List Int} {v : Value} (h : LnA w b row xs ls) (hv : Amp w b v l 77) (hl : l.length * 8 ≤ 140737488355328) (hr : v.ownBlock = none ∨ v.ownBlock ≠ row) : LnA w b row (xs ++ [v]) (ls ++ [l]) := by
  refine ⟨by simp [h.1], fun i hi => ?_⟩
  rw [List.length_append, List.length_singleton] at hi
  rcases Nat.lt_or_ge i ls.length with hlt | hge
  · obtain ⟨u, h1, h2, h3⟩ := h.2 i hlt
    rw [gL_left hlt]
    exact ⟨u, by rw [List.getElem?_append_left (by rw [h.1]; exact hlt)]; exact h1, h2, h3⟩
  · obtain rfl : i = ls.length := by omega
    rw [gL_last]
    exact ⟨v, by rw [List.getElem?_append_right (by rw [h.1]; exact Nat.le_refl _), h.1, Nat.sub_self]; rfl, hv, hl, hr⟩
theorem LnA.nil (w : World) (b : Nat) (row : Option Nat) : LnA w b row [] [] := ⟨rfl, fun i hi => absurd hi (by simp)⟩
theorem LnsA.nil (w : World) (b : Nat) : LnsA w b none 0 0 [] := ⟨[], Own.nil _ _ _ _, LnA.nil _ _ _, fun _ => rfl⟩
theorem LnsA.ext (h : LnsA w b A n c ls) (he : Ext w w') : LnsA w' b A n c ls := by obtain ⟨xs, h1, h2, h3⟩ := h; exact ⟨xs, Own.ext h1 he, h2.ext he, h3⟩
theorem LnsA.setCell (h : LnsA w b A n c ls) {p : Addr} (hp : p.block < b) (u : Value) : LnsA (w.setCell p u) b A n c ls := by obtain ⟨xs, h1, h2, h3⟩ := h; exact ⟨xs, Own.setCell h1 hp u, h2.setCell hp u, h3⟩
theorem LnsA.lns (h : LnsA w b A n c ls) : Lns w A n c ls := h.lnsO.lns
theorem LnsA.at_ (h : LnsA w b A n c ls) {k : Nat} (hk : k < n) : ∃ ad v, A = some ad ∧ w.cell? (ad.add k) = some v ∧ Amp w b v (gL ls k) 77 ∧ (gL ls k).length * 8 ≤ 140737488355328 := by
  have hl := h.lns.len
  obtain ⟨xs, h1, h2, _⟩ := h
  obtain ⟨v, e1, e2, e3, _⟩ := h2.2 k (by omega)
  obtain ⟨ad, rfl, hc⟩ := (Own.rd h1).2.2.2 (by omega)
  exact ⟨ad, v, rfl, hc k v e1, e2, e3⟩
end
/-- A history whose slices are ample. -/
def HisA (w : World) (b : Nat) (v : Value) (h : Hi) : Prop := ∃ A n c S sn sc P pn pc, v = .agg (hisC A n c h.most h.at_ S sn sc P pn pc h.older) ∧ LnsA w b A n c h.lines ∧ Amp w b (.slice S sn sc) h.scratch 77 ∧ Amp w b (.slice P pn pc) h.pattern 77 ∧ h.scratch.length * 8 ≤ 140737488355328 ∧ h.pattern.length * 8 ≤ 140737488355328
theorem HisA.hisO {w : World} {b : Nat} {v : Value} {h : Hi} (hh : HisA w b v h) : HisO w b v h := by
  obtain ⟨A, n, c, S, sn, sc, P, pn, pc, rfl, h1, h2, h3, h4, h5⟩ := hh
  exact ⟨A, n, c, S, sn, sc, P, pn, pc, rfl, h1.lnsO, h2.regOw h4, h3.regOw h5⟩
theorem HisA.ext {w w' : World} {b : Nat} {v : Value} {h : Hi} (hh : HisA w b v h) (he : Ext w w') : HisA w' b v h := by
  obtain ⟨A, n, c, S, sn, sc, P, pn, pc, rfl, h1, h2, h3, h4⟩ := hh
  exact ⟨A, n, c, S, sn, sc, P, pn, pc, rfl, h1.ext he, h2.ext he, h3.ext he, h4⟩

/-! what the loop of spoils keeps -/
theorem own_ne_num {w : World} {base n c g : Nat} {A : Option Addr} {xs : List Value} {cs : Array Value} (h : Own w base 22 1 A n c xs) (hb : Blk w g 3 cs) : (Value.slice A n c).ownBlock = none ∨ (Value.slice A n c).ownBlock ≠ some g := by
  rcases h.2 with ⟨hv, _⟩ | ⟨g', cap, cur, hv, _, hg, _⟩
  · rw [hv]; exact .inl rfl
  · rw [hv]
    refine .inr fun e => ?_
    have e : some g' = some g := e
    injection e with e
    subst e
    unfold Blk at hb
    rw [hb] at hg
    injection hg with hg
    injection hg with _ hg
    exact absurd hg (by decide)
structure SpI (w w15 : World) (g9 b0 : Nat) (cs : Array Value) (O : Option Addr) (n c : Nat) (xs : List Value) (wx : World) : Prop where
  low : GrowLow b0 w15 wx
  ext : Ext w wx
  row : ∀ v, RowB w15 v (g9 + 1) b0 → RowB wx v (g9 + 1) b0
  blk : Blk wx g9 55 cs
  own : Own wx (g9 + 1) 22 1 O n c xs
theorem SpI.step {w w15 wx wy : World} {g9 b0 : Nat} {cs : Array Value} {O : Option Addr} {n c : Nat} {xs : List Value} (h : SpI w w15 g9 b0 cs O n c xs wx) (hw : w.heap.size ≤ g9)
    (hs : ∃ g, (g9 + 1 ≤ g ∧ g < b0) ∧ wx.grownBy wy (some g) ∧ (∃ cs, Blk wx g 3 cs) ∧ ∀ v2 a2 b2, RowB wx v2 a2 b2 → RowB wy v2 a2 b2) : SpI w w15 g9 b0 cs O n c xs wy := by
  obtain ⟨g, hg, hgr, ⟨cs, hb⟩, hk⟩ := hs
  exact ⟨h.low.step hgr hg.2, ext_spoilt h.ext hgr (by omega), fun v hv => hk _ _ _ (h.row v hv), h.blk.grown hgr (fun e => by injection e with e; omega), Own.kept h.own hgr (own_ne_num h.own hb)⟩
theorem HisA.rows {w : World} {b n c sn sc pn pc : Nat} {A S P : Option Addr} {mo at_ : Int} {ol : Bool} {h : Hi} (hh : HisA w b (.agg (hisC A n c mo at_ S sn sc P pn pc ol)) h) :
    ∃ xs, Own w b 22 1 A n c xs ∧ (∀ i, i < n → ∃ B m q, xs[i]? = some (.slice B m q) ∧ RowB w (.slice B m q) b w.heap.size) ∧ RowB w (.slice S sn sc) b w.heap.size ∧ RowB w (.slice P pn pc) b w.heap.size := by
  obtain ⟨_, _, _, _, _, _, _, _, _, e, ⟨xs, h1, h2, _⟩, h4, h5, _⟩ := hh
  simp only [hisC, Value.agg.injEq, Array.mk.injEq, List.cons.injEq, Value.slice.injEq, and_true] at e
  obtain ⟨⟨rfl, rfl, rfl⟩, _, _, ⟨rfl, rfl, rfl⟩, ⟨rfl, rfl, rfl⟩, _⟩ := e
  refine ⟨xs, h1, fun i hi => ?_, h4.rowB, h5.rowB⟩
  have hl := h1.1
  obtain ⟨v, e1, ⟨B, m, q, rfl, h6, h7⟩, _⟩ := h2.2 i (by rw [← h2.1]; omega)
  exact ⟨some B, m, q, e1, Amp.rowB ⟨B, m, q, rfl, h6, h7⟩⟩
theorem GrowLow.blk {b g : Nat} {w w' : World} (hl : GrowLow b w w') {t : TypeId} {cs : Array Value} (hh : Blk w g t cs) (hb : b ≤ g) : Blk w' g t cs :=
  hl (fun x => Blk x g t cs) (fun a c q h1 h2 h3 => h1.grown h2 (fun e => by injection e with e; omega)) hh
theorem ne_his {w : World} {b n c g : Nat} {A : Option Addr} {l : List Int} {cs : Array Value} (h : OwnI w b A n c l) (hb : Blk w g 55 cs) : some g ≠ (Value.slice A n c).ownBlock := by
  rcases h.2 with ⟨hv, _⟩ | ⟨g', cap, cur, hv, _, hg, _⟩
  · rw [hv]; exact fun e => by cases e
  · rw [hv]
    refine fun e => ?_
    have e : some g = some g' := e
    injection e with e
    subst e
    unfold Blk at hb
    rw [hb] at hg
    injection hg with hg
    injection hg with _ hg
    exact absurd hg (by decide)
theorem ext_spoiltO {w0 a c : World} {row : Option Nat} (h : Ext w0 a) (hg : a.grownBy c row) (hb : ∀ g, row = some g → w0.heap.size ≤ g) : Ext w0 c := Below.grown h hg h.size (fun k hk => hb k hk)
end Go.Proofs.Ytbhbakejpgndmaa
