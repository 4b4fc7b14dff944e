/-
  splice's builder: in memory; the walks of begin, put, keep, drop.
-/
import Derived.Test.YthphlghblmindaaSplR
import Derived.Test.YthphlghblmindaaSplU
import Derived.BigRegion
import Derived.Deep.RegionLaw
namespace Go.Proofs.Ythphlghblmindaa
open Go.RowKit
set_option linter.unusedVariables false
set_option linter.unusedSimpArgs false

/-- From w to w' the world has grown, this block has been written, and rows from base on. -/
def KeepsB (w w' : World) (g base : Nat) : Prop := ∀ P : World → Prop, (∀ a b, Ext a b → P a → P b) → (∀ a i u, P a → P (a.setCell ⟨g, i, none⟩ u)) → (∀ a b row, a.grownBy b row → (∀ k, row = some k → base ≤ k) → P a → P b) → P w → P w'
theorem KeepsB.refl (w : World) (g base : Nat) : KeepsB w w g base := fun _ _ _ _ h => h
theorem KeepsB.trans {a b c : World} {g base : Nat} (h : KeepsB a b g base) (k : KeepsB b c g base) : KeepsB a c g base := fun P h1 h2 h3 h4 => k P h1 h2 h3 (h P h1 h2 h3 h4)
theorem KeepsB.ext {a b : World} {g base : Nat} (h : Ext a b) : KeepsB a b g base := fun P h1 _ _ h4 => h1 _ _ h h4
theorem KeepsB.set {w : World} {g base i : Nat} {u : Value} : KeepsB w (w.setCell ⟨g, i, none⟩ u) g base := fun P _ h2 _ h4 => h2 _ _ _ h4
theorem KeepsB.grow {w w' : World} {g base : Nat} {row : Option Nat} (h : w.grownBy w' row) (hr : ∀ k, row = some k → base ≤ k) : KeepsB w w' g base := fun P _ _ h3 h4 => h3 _ _ _ h hr h4
theorem KeepsB.blk {w w' : World} {g base q t : Nat} {cs : Array Value} (h : KeepsB w w' g base) (hne : g ≠ q) (hq : q < base) (hb : Blk w q t cs) : Blk w' q t cs :=
  h (fun a => Blk a q t cs) (fun _ _ h1 h2 => h2.ext h1) (fun _ _ _ h1 => h1.setOther hne) (fun a b row h1 h2 h3 => h3.grown h1 (fun e => by have := h2 q e.symm; omega)) hb
theorem KeepsB.world {w0 w w' : World} {g base : Nat} (h : KeepsB w w' g base) (hx : Ext w0 w) (hg : w0.heap.size ≤ g) (hb : w0.heap.size ≤ base) : Ext w0 w' :=
  h (Ext w0) (fun _ _ h1 h2 => h2.trans h1) (fun _ _ _ h1 => h1.setCell hg _) (fun a b row h1 h2 h3 => Below.grown h3 h1 h3.size (fun k hk => Nat.le_trans hb (h2 k hk))) hx

/-- What another row's growth leaves of an edit that is made. -/
theorem EditsO.other {w w' : World} {base : Nat} {rowO rowX : Option Nat} {xs : List Value} {e : List Spl} (h : EditsO w base rowO xs e) (hX : EditsO w base rowX xs e) (hg : w.grownBy w' rowX) : EditsO w' base rowO xs e :=
  ⟨h.1, fun i hi => by
    obtain ⟨B, m, d, h1, h2, h3, h4, h5, h6⟩ := h.2 i hi
    obtain ⟨B', m', d', k1, k2, k3, k4, k5, k6⟩ := hX.2 i hi
    rw [h3] at k3
    cases k3
    exact ⟨B, m, d, h1, h2, h3, Own.kept h4 hg k6, h5, h6⟩⟩
theorem EditsO.setCell {w : World} {base : Nat} {row : Option Nat} {xs : List Value} {e : List Spl} (h : EditsO w base row xs e) {p : Addr} (hp : p.block < base) (u : Value) : EditsO (w.setCell p u) base row xs e :=
  ⟨h.1, fun i hi => let ⟨B, m, d, h1, h2, h3, h4, h5, h6⟩ := h.2 i hi; ⟨B, m, d, h1, h2, h3, Own.setCell h4 hp u, h5, h6⟩⟩
theorem EditsO.toNone {w : World} {base : Nat} {row : Option Nat} {xs : List Value} {e : List Spl} (h : EditsO w base row xs e) : EditsO w base none xs e :=
  ⟨h.1, fun i hi => let ⟨B, m, d, h1, h2, h3, h4, h5, h6⟩ := h.2 i hi; ⟨B, m, d, h1, h2, h3, h4, h5, by
    cases hb : (Value.slice B m d).ownBlock with
    | none => exact .inl rfl
    | some k => exact .inr (fun e => by cases e)⟩⟩

/-- The builder, in memory. -/
def BldAt (w : World) (base g : Nat) (b : Bld) : Prop := ∃ (O : Option Addr) (q d : Nat) (xs : List Value) (X : Option Addr) (y c : Nat),
  Blk w g 93 #[.slice O q d, .int .i64 b.a, .bool b.op, .int .i64 b.now.f, .int .i64 b.now.t, .slice X y c] ∧
  Own w base 45 3 O q d xs ∧ EditsO w base (Value.slice O q d).ownBlock xs b.out ∧ (g < base ∧ base ≤ w.heap.size) ∧
  (b.op = true → OwnI w base X y c b.now.x ∧ EditsO w base (Value.slice X y c).ownBlock xs b.out ∧ ((Value.slice X y c).ownBlock = none ∨ (Value.slice X y c).ownBlock ≠ (Value.slice O q d).ownBlock))

/-- What leaves the builder as it is. -/
theorem BldAt.ext {w w' : World} {base g : Nat} {b : Bld} (h : BldAt w base g b) (he : Ext w w') : BldAt w' base g b := by
  obtain ⟨O, q, d, xs, X, y, c, h1, h2, h3, h4, h5⟩ := h
  exact ⟨O, q, d, xs, X, y, c, h1.ext he, h2.ext he, h3.ext he, ⟨h4.1, Nat.le_trans h4.2 he.hsize⟩, fun ho => let ⟨k1, k3, k4⟩ := h5 ho; ⟨k1.ext he, k3.ext he, k4⟩⟩
theorem BldAt.setOther {w : World} {base g q i : Nat} {b : Bld} {u : Value} (h : BldAt w base g b) (hne : q ≠ g) (hq : q < base) : BldAt (w.setCell ⟨q, i, none⟩ u) base g b := by
  obtain ⟨O, n, d, xs, X, y, c, h1, h2, h3, h4, h5⟩ := h
  exact ⟨O, n, d, xs, X, y, c, h1.setOther hne, Own.setCell h2 hq u, h3.setCell hq u, ⟨h4.1, by simpa using h4.2⟩, fun ho => let ⟨k1, k3, k4⟩ := h5 ho; ⟨Own.setCell k1 hq u, k3.setCell hq u, k4⟩⟩
theorem BldAt.keeps {w w' : World} {base g q : Nat} {b : Bld} (h : BldAt w base g b) (hk : Keeps1 w w' q) (hne : q ≠ g) (hq : q < base) : BldAt w' base g b :=
  hk (fun a => BldAt a base g b) (fun _ _ h1 h2 => h2.ext h1) (fun _ _ _ h1 => h1.setOther hne hq) h

set_option maxRecDepth 20000 in
set_option maxHeartbeats 4000000 in
theorem begin_ok {w : World} {base g : Nat} {b : Bld} (h : BldAt w base g b) :
    Calls Try.prog 65 #[.pointer (some ⟨g, 0, none⟩)] w fun e' w' => e' = .returned (.tuple #[]) ∧ BldAt w' base g b.begin ∧ KeepsB w w' g base := by
  have HB := Lib.hid h
  obtain ⟨O, q, d, xs, X, y, c, h1, h2, h3, ⟨h4, h6⟩, h5⟩ := h
  have k1 := h1.cell 1
  have k2 := h1.cell 2
  have k3 := h1.cell 3
  have k4 := h1.cell 4
  have k5 := h1.cell 5
  have f2 := h1.frozen 2
  have f3 := h1.frozen 3
  have f4 := h1.frozen 4
  have f5 := h1.frozen 5
  simp only [List.getElem?_toArray, List.getElem?_cons_zero, List.getElem?_cons_succ] at k1 k2 k3 k4 k5
  have H1 := Lib.hid h1
  have H2 := Lib.hid h2
  have H3 := Lib.hid h3
  clear h1 h2 h3 h5
  cases hop : b.op with
  | true =>
    have HE : Hid (b.begin = b) := Lib.hid (by unfold Bld.begin; rw [if_pos hop])
    rw [hop] at k2
    clear hop
    go_enter Try.func65, Try.ntmps65
    go_wp2_with fail
    go_end0
    exact ⟨rfl, by rw [HE.out]; exact HB.out, KeepsB.refl _ _ _⟩
  | false =>
    have HE : Hid (b.begin = ⟨b.out, b.a, true, ⟨b.a, b.a, []⟩⟩) := Lib.hid (by unfold Bld.begin; rw [if_neg (by rw [hop]; decide)])
    rw [hop] at k2
    clear hop
    go_enter Try.func65, Try.ntmps65
    go_wp2_with fail
    go_region
    go_end0
    have hb2 := (((H1.out.set_ 2 (.bool true)).set_ 3 (.int .i64 b.a)).set_ 4 (.int .i64 b.a)).set_ 5 (.slice none 0 0)
    have ho2 := Own.setCell (Own.setCell (Own.setCell (Own.setCell H2.out (p := ⟨g, 2, none⟩) h4 (.bool true)) (p := ⟨g, 3, none⟩) h4 (.int .i64 b.a)) (p := ⟨g, 4, none⟩) h4 (.int .i64 b.a)) (p := ⟨g, 5, none⟩) h4 (.slice none 0 0)
    have he2 := (((H3.out.setCell (p := ⟨g, 2, none⟩) h4 (.bool true)).setCell (p := ⟨g, 3, none⟩) h4 (.int .i64 b.a)).setCell (p := ⟨g, 4, none⟩) h4 (.int .i64 b.a)).setCell (p := ⟨g, 5, none⟩) h4 (.slice none 0 0)
    refine ⟨rfl, ?_, KeepsB.trans (KeepsB.trans (KeepsB.trans (KeepsB.trans KeepsB.set KeepsB.set) KeepsB.set) KeepsB.set) (KeepsB.ext (Ext.drew _))⟩
    rw [HE.out]
    exact BldAt.ext ⟨O, q, d, xs, none, 0, 0, by simpa using hb2, ho2, he2, ⟨h4, by simpa using h6⟩, fun _ => ⟨OwnI.nil _ _, he2.toNone, .inl rfl⟩⟩ (Ext.drew _)

theorem Blk.drewB1 {w : World} {g t : Nat} {cs : Array Value} (h : Blk w g t cs) : Blk w.drew g t cs := h
theorem cells3_in {w : World} {g t : Nat} {u a o v s r : Value} (h : Blk w g t #[u, a, o, v, s, r]) : w.cell? ⟨g, 3, none⟩ = some v ∧ w.cell? ⟨g, 4, none⟩ = some s ∧ w.cell? ⟨g, 5, none⟩ = some r := ⟨h.cell 3, h.cell 4, h.cell 5⟩
theorem cells3_up {w w' : World} {g : Nat} {v s r : Value} (he : Ext w w') (h : w.cell? ⟨g, 3, none⟩ = some v ∧ w.cell? ⟨g, 4, none⟩ = some s ∧ w.cell? ⟨g, 5, none⟩ = some r) :
    w'.cell? ⟨g, 3, none⟩ = some v ∧ w'.cell? ⟨g, 4, none⟩ = some s ∧ w'.cell? ⟨g, 5, none⟩ = some r := ⟨he.cell h.1, he.cell h.2.1, he.cell h.2.2⟩
theorem cell_setOff {w : World} {g i j : Nat} {x u : Value} (h : w.cell? ⟨g, i, none⟩ = some x) (hne : j ≠ i) : (w.setCell ⟨g, j, none⟩ u).cell? ⟨g, i, none⟩ = some x := by
  unfold World.cell? World.setCell at *
  simp only [Array.getElem?_modify]
  simp only [if_true]
  cases hh : w.heap[g]? with
  | none => rw [hh] at h; cases h
  | some o =>
    rw [hh] at h
    cases o <;> simp_all [Array.getElem?_setIfInBounds]
theorem cells3_set0 {w : World} {g : Nat} {v s r u : Value} (h : w.cell? ⟨g, 3, none⟩ = some v ∧ w.cell? ⟨g, 4, none⟩ = some s ∧ w.cell? ⟨g, 5, none⟩ = some r) :
    (w.setCell ⟨g, 0, none⟩ u).cell? ⟨g, 3, none⟩ = some v ∧ (w.setCell ⟨g, 0, none⟩ u).cell? ⟨g, 4, none⟩ = some s ∧ (w.setCell ⟨g, 0, none⟩ u).cell? ⟨g, 5, none⟩ = some r := ⟨cell_setOff h.1 (by decide), cell_setOff h.2.1 (by decide), cell_setOff h.2.2 (by decide)⟩
theorem cells4_ext {w w' : World} {g : Nat} {u v s r : Value} (he : Ext w w') (h : w.cell? ⟨g, 0, none⟩ = some u ∧ w.cell? ⟨g, 3, none⟩ = some v ∧ w.cell? ⟨g, 4, none⟩ = some s ∧ w.cell? ⟨g, 5, none⟩ = some r) :
    w'.cell? ⟨g, 0, none⟩ = some u ∧ w'.cell? ⟨g, 3, none⟩ = some v ∧ w'.cell? ⟨g, 4, none⟩ = some s ∧ w'.cell? ⟨g, 5, none⟩ = some r := ⟨he.cell h.1, he.cell h.2.1, he.cell h.2.2.1, he.cell h.2.2.2⟩
theorem cells4_of {w : World} {g t : Nat} {u a o v s r : Value} (h : Blk w g t #[u, a, o, v, s, r]) : w.cell? ⟨g, 0, none⟩ = some u ∧ w.cell? ⟨g, 3, none⟩ = some v ∧ w.cell? ⟨g, 4, none⟩ = some s ∧ w.cell? ⟨g, 5, none⟩ = some r := ⟨h.cell 0, h.cell 3, h.cell 4, h.cell 5⟩
theorem Own.cap {w : World} {base e z n c : Nat} {A : Option Addr} {xs : List Value} (h : Own w base e z A n c xs) : A = none → c = 0 := by
  obtain ⟨h1, h2⟩ := h
  rcases h2 with h2 | ⟨g, cap, cur, hv, hb, hg, r⟩
  · have := h2.1
    cases this
    intro _; rfl
  · cases hv
    intro hh; cases hh
theorem begin_op (b : Bld) : b.begin.op = true := by
  unfold Bld.begin
  split
  · assumption
  · rfl

set_option maxRecDepth 20000 in
set_option maxHeartbeats 4000000 in
theorem put_ok {w0 w : World} {base g n cB : Nat} {b : Bld} {B : Option Addr} {x : List Int} (h : BldAt w base g b) (hx : Ints w0 B n cB x) (he : Ext w0 w) (hg : w0.heap.size ≤ g) (hz : b.begin.now.x.length + n ≤ 1000000000) :
    Calls Try.prog 49 #[.pointer (some ⟨g, 0, none⟩), .slice B n cB] w fun e' w' => e' = .returned (.tuple #[]) ∧ BldAt w' base g (b.put x) ∧ KeepsB w w' g base := by
  obtain ⟨i0, hi, hz0, hz1, hz2⟩ := info_parts info_int
  have hlen := Lib.hid hx.len
  rcases Nat.eq_zero_or_pos n with h0 | h0
  · subst h0
    have HE : Hid (b.put x = b) := Lib.hid (by unfold Bld.put; rw [if_pos hlen.out])
    have HB := Lib.hid h
    clear h hz
    go_enter Try.func49, Try.ntmps49
    go_wp2_with fail
    go_end0
    exact ⟨rfl, by rw [HE.out]; exact HB.out, KeepsB.refl _ _ _⟩
  · have HE : Hid (b.put x = ⟨b.begin.out, b.begin.a, b.begin.op, ⟨b.begin.now.f, b.begin.now.t, b.begin.now.x ++ x⟩⟩) := Lib.hid (by unfold Bld.put; rw [if_neg (by rw [hlen.out]; omega)])
    have HBG := Lib.hid (begin_ok h)
    have HOP := Lib.hid (begin_op b)
    clear h
    go_enter Try.func49, Try.ntmps49
    go_wp2_with fail
    refine HBG.out.mono ?_
    rintro e w1 ⟨rfl, hb1, hk1⟩
    clear HBG
    generalize b.begin = b1 at *
    obtain ⟨O, q, d, xs, X, y, c, h1, h2, h3, ⟨h4, h6⟩, h5⟩ := hb1
    obtain ⟨hX, hXe, hXO⟩ := h5 HOP.out
    have he1 : Ext w0 w1 := hk1.world he hg (by omega)
    have hy : b1.now.x.length = y := hX.ints.len
    have hrd : Ints w1 B n cB x := hx.ext he1
    have k5 := h1.cell 5
    simp only [List.getElem?_toArray, List.getElem?_cons_zero, List.getElem?_cons_succ] at k5
    have H1 := Lib.hid h1
    have H2 := Lib.hid h2
    have H3 := Lib.hid h3
    have HXe := Lib.hid hXe
    have HXO := Lib.hid hXO
    have HK := Lib.hid hk1
    have hXb : ∀ k, (Value.slice X y c).ownBlock = some k → base ≤ k := fun k hk => (Own.blk hX k hk).1
    clear h1 h2 h3 h5 hXe hXO hk1 he
    go_wp2_with (at_builtin; refine wpList_app rfl (.tmp 14) (.tmp 15) 22 rfl w0 base 3 i0 (.int .i64 0) 1 8 Try.underlying22 hi hz0 hz1 hz2 rfl (by decide) X y c _ rfl hX B n cB _ rfl hrd ?_ ?_ ?_ he1 (by omega) h6 ?_)
    · intro u hu
      obtain ⟨v, _, rfl⟩ := List.mem_map.1 hu
      rfl
    · unfold maxLen; omega
    · omega
    · intro X2 c2 w2 hX2 hgr hrow hx2
      have hb2 := H1.out.grown hgr (fun e => by have := hXb g e.symm; omega)
      have k5 := hb2.cell 5
      have f5 := hb2.frozen 5
      simp only [List.getElem?_toArray, List.getElem?_cons_zero, List.getElem?_cons_succ] at k5
      have ho2 : Own w2 base 45 3 O q d xs := Own.kept H2.out hgr (by
        rcases hOb : (Value.slice O q d).ownBlock with _ | k
        · exact .inl rfl
        · right
          intro e
          rcases HXO.out with h7 | h7
          · rw [h7] at e; cases e
          · exact h7 (by rw [hOb, ← e]))
      have hr2 : (Value.slice X2 (y + n) c2).ownBlock = (Value.slice X y c).ownBlock ∨ ∃ k, w1.heap.size ≤ k ∧ (Value.slice X2 (y + n) c2).ownBlock = some k := by
        rcases hrow with h7 | h7
        · exact .inl h7
        · exact .inr ⟨_, Nat.le_refl _, h7⟩
      have hXO2 : (Value.slice X2 (y + n) c2).ownBlock = none ∨ (Value.slice X2 (y + n) c2).ownBlock ≠ (Value.slice O q d).ownBlock := by
        rcases hrow with h7 | h7
        · rw [h7]; exact HXO.out
        · right
          rw [h7]
          intro e
          have := (Own.blk H2.out _ e.symm).2
          omega
      have hfin : BldAt (w2.setCell ⟨g, 5, none⟩ (.slice X2 (y + n) c2)) base g ⟨b1.out, b1.a, b1.op, ⟨b1.now.f, b1.now.t, b1.now.x ++ x⟩⟩ :=
        ⟨O, q, d, xs, X2, y + n, c2, by simpa using hb2.set_ 5 (.slice X2 (y + n) c2), Own.setCell ho2 h4 _, (EditsO.other H3.out HXe.out hgr).setCell h4 _, ⟨h4, by
          have := hgr.size
          simp; omega⟩, fun _ => ⟨by
            have := Own.setCell hX2 (p := ⟨g, 5, none⟩) h4 (.slice X2 (y + n) c2)
            rw [← List.map_append] at this
            exact this, (EditsO.grown HXe.out hgr hr2).setCell h4 _, hXO2⟩⟩
      have HF := Lib.hid hfin
      have HKK : Hid (KeepsB w (w2.setCell ⟨g, 5, none⟩ (.slice X2 (y + n) c2)) g base) := Lib.hid (HK.out.trans ((KeepsB.grow hgr hXb).trans KeepsB.set))
      clear hfin hX hX2 hgr hrow hb2 ho2 hr2 hXO2 hXb hrd
      go_wp2_with fail
      go_end0
      exact ⟨rfl, by rw [HE.out]; exact HF.out, HKK.out⟩

set_option maxRecDepth 20000 in
set_option maxHeartbeats 4000000 in
theorem drop_ok {w : World} {base g : Nat} {b : Bld} (h : BldAt w base g b) (ha : b.a ≤ 1000000000) :
    Calls Try.prog 51 #[.pointer (some ⟨g, 0, none⟩)] w fun e' w' => e' = .returned (.tuple #[]) ∧ BldAt w' base g b.drop ∧ KeepsB w w' g base := by
  have HE : Hid (b.drop = ⟨b.begin.out, b.begin.a + 1, true, ⟨b.begin.now.f, ((b.begin.a + 1 : Nat) : Int), b.begin.now.x⟩⟩) := Lib.hid rfl
  have HBG := Lib.hid (begin_ok h)
  have HOP := Lib.hid (begin_op b)
  have ha1 : b.begin.a ≤ 1000000000 := by unfold Bld.begin; split <;> exact ha
  clear h ha
  go_enter Try.func51, Try.ntmps51
  go_wp2_with fail
  refine HBG.out.mono ?_
  rintro e w1 ⟨rfl, hb1, hk1⟩
  clear HBG
  generalize b.begin = b1 at *
  obtain ⟨O, q, d, xs, X, y, c, h1, h2, h3, ⟨h4, h6⟩, h5⟩ := hb1
  have k1 := h1.cell 1
  have k4 := h1.cell 4
  have f1 := h1.frozen 1
  have f4 := h1.frozen 4
  simp only [List.getElem?_toArray, List.getElem?_cons_zero, List.getElem?_cons_succ] at k1 k4
  obtain ⟨hX, hXe, hXO⟩ := h5 HOP.out
  have HF : Hid (BldAt ((w1.setCell ⟨g, 1, none⟩ (.int .i64 ((b1.a : Int) + 1))).setCell ⟨g, 4, none⟩ (.int .i64 ((b1.a : Int) + 1))) base g ⟨b1.out, b1.a + 1, true, ⟨b1.now.f, ((b1.a + 1 : Nat) : Int), b1.now.x⟩⟩) := Lib.hid
    ⟨O, q, d, xs, X, y, c, by
      have := (h1.set_ 1 (.int .i64 ((b1.a : Int) + 1))).set_ 4 (.int .i64 ((b1.a : Int) + 1))
      rw [HOP.out] at this
      simpa using this, Own.setCell (Own.setCell h2 h4 _) h4 _, (h3.setCell h4 _).setCell h4 _, ⟨h4, by simpa using h6⟩, fun _ => ⟨Own.setCell (Own.setCell hX h4 _) h4 _, (hXe.setCell h4 _).setCell h4 _, hXO⟩⟩
  have HK : Hid (KeepsB w ((w1.setCell ⟨g, 1, none⟩ (.int .i64 ((b1.a : Int) + 1))).setCell ⟨g, 4, none⟩ (.int .i64 ((b1.a : Int) + 1))) g base) := Lib.hid (hk1.trans (KeepsB.set.trans KeepsB.set))
  clear h1 h2 h3 h5 hX hXe hXO hk1
  go_wp2_with fail
  go_end0
  exact ⟨rfl, by rw [HE.out]; exact HF.out, HK.out⟩

set_option maxRecDepth 20000 in
set_option maxHeartbeats 4000000 in
theorem keep_ok {w0 w : World} {base g : Nat} {b : Bld} (h : BldAt w base g b) (he : Ext w0 w) (hg : w0.heap.size ≤ g) (ha : b.a ≤ 1000000000) (hz : b.out.length ≤ 1000000000) :
    Calls Try.prog 50 #[.pointer (some ⟨g, 0, none⟩)] w fun e' w' => e' = .returned (.tuple #[]) ∧ BldAt w' base g b.keep ∧ KeepsB w w' g base := by
  obtain ⟨i0, hi, hz0, hz1, hz2⟩ := info_parts info_splice
  obtain ⟨O, q, d, xs, X, y, c, h1, h2, h3, ⟨h4, h6⟩, h5⟩ := h
  have k0 := h1.cell 0
  have k1 := h1.cell 1
  have k2 := h1.cell 2
  have k3 := h1.cell 3
  have k4 := h1.cell 4
  have k5 := h1.cell 5
  have f0 := h1.frozen 0
  have f1 := h1.frozen 1
  have f2 := h1.frozen 2
  simp only [List.getElem?_toArray, List.getElem?_cons_zero, List.getElem?_cons_succ] at k0 k1 k2 k3 k4 k5
  cases hop : b.op with
  | false =>
    have HE : Hid (b.keep = ⟨b.out, b.a + 1, false, b.now⟩) := Lib.hid (by unfold Bld.keep; rw [if_neg (by rw [hop]; decide)])
    rw [hop] at k2 h1
    clear hop
    have HF : Hid (BldAt (w.setCell ⟨g, 1, none⟩ (.int .i64 ((b.a : Int) + 1))) base g ⟨b.out, b.a + 1, false, b.now⟩) := Lib.hid
      ⟨O, q, d, xs, X, y, c, by simpa using h1.set_ 1 (.int .i64 ((b.a : Int) + 1)), Own.setCell h2 h4 _, h3.setCell h4 _, ⟨h4, by simpa using h6⟩, fun hh => by cases hh⟩
    clear h1 h2 h3 h5
    go_enter Try.func50, Try.ntmps50
    go_wp2_with fail
    go_end0
    exact ⟨rfl, by rw [HE.out]; exact HF.out, KeepsB.set⟩
  | true =>
    have HE : Hid (b.keep = ⟨b.out ++ [b.now], b.a + 1, false, b.now⟩) := Lib.hid (by unfold Bld.keep; rw [if_pos hop])
    obtain ⟨hX, hXe, hXO⟩ := h5 hop
    rw [hop] at k2
    clear hop h5
    have hq : q ≤ 1000000000 := by
      have e1 := h3.1
      have e2 := (Own.rd h2).len
      omega
    have hOb : ∀ k, (Value.slice O q d).ownBlock = some k → base ≤ k := fun k hk => (Own.blk h2 k hk).1
    have hw2 := Own.ext h2 (Ext.drew w)
    have a0 := Ext.cell (Ext.alloc w (.cells #[.int .i64 b.now.f, .int .i64 b.now.t, .slice X y c] 45)) k0
    have a1 : (w.alloc (.cells #[.int .i64 b.now.f, .int .i64 b.now.t, .slice X y c] 45)).drew.cell? ⟨g, 0, none⟩ = some (.slice O q d) := a0
    have a2 : w.drew.cell? ⟨g, 0, none⟩ = some (.slice O q d) := k0
    have a3 : (w.drew.alloc (.cells #[.int .i64 b.now.f, .int .i64 b.now.t, .slice X y c] 45)).cell? ⟨g, 0, none⟩ = some (.slice O q d) := a0
    have hed := he.to_drew
    have H1 := Lib.hid h1
    have H3 := Lib.hid (EditsO.ext (EditsO.snoc h3 (s := b.now) hX (Own.cap hX) hXO) (Ext.drew w))
    have h4' := Lib.hid h4
    clear h1 h2 h3 hX hXe hXO he
    go_enter Try.func50, Try.ntmps50
    go_wp2_with fail
    go_region_law (first
      | (refine step_push rfl (.tmp 10) (.tmp 15) 39 rfl w0 base 45 i0 _ 3 40 Try.underlying39 hi hz0 hz1 hz2 rfl (by decide) O q d xs rfl hw2 #[.int .i64 b.now.f, .int .i64 b.now.t, .slice X y c] rfl one3 rfl (by unfold maxLen; omega) (by omega) hed (by omega) h6 ?_
         intro O2 d2 w3 hO2 hgr hor hx3
         have hb3 := (H1.out.drewB1).grown hgr (fun e => by have := hOb g e.symm; omega)
         have hS3 := cells3_in hb3
         have c0 := hb3.cell 0
         have f0 := hb3.frozen 0
         simp only [List.getElem?_toArray, List.getElem?_cons_zero] at c0))
    all_goals
      have hb4 : Blk (w3.setCell ⟨g, 0, none⟩ (.slice O2 (q + 1) d2)) g 93 #[.slice O2 (q + 1) d2, .int .i64 b.a, .bool b.op, .int .i64 b.now.f, .int .i64 b.now.t, .slice X y c] := by simpa using hb3.set_ 0 (.slice O2 (q + 1) d2)
      have hO4 := Own.setCell hO2 (p := ⟨g, 0, none⟩) h4 (.slice O2 (q + 1) d2)
      have hE4 := (EditsO.grown H3.out hgr hor).setCell (p := ⟨g, 0, none⟩) h4 (.slice O2 (q + 1) d2)
      have hsz : base ≤ (w3.setCell ⟨g, 0, none⟩ (.slice O2 (q + 1) d2)).heap.size := by
        have := hgr.size
        have h9 : w.drew.heap.size = w.heap.size := rfl
        simp; omega
      have hK4 : KeepsB w (w3.setCell ⟨g, 0, none⟩ (.slice O2 (q + 1) d2)) g base := (KeepsB.ext (Ext.drew _)).trans ((KeepsB.grow hgr hOb).trans KeepsB.set)
      clear hO2 hgr hor hx3 hb3 hS3 c0 f0 a0 a1 a2 a3 k0 k1 k2 k3 k4 k5 f1 f2 hw2 hed
      revert hb4 hO4 hE4 hsz hK4
      generalize w3.setCell ⟨g, 0, none⟩ (.slice O2 (q + 1) d2) = w4
      intro hb4 hO4 hE4 hsz hK4
      have k1 := hb4.cell 1
      have k2 := hb4.cell 2
      have f1 := hb4.frozen 1
      have f2 := hb4.frozen 2
      simp only [List.getElem?_toArray, List.getElem?_cons_zero, List.getElem?_cons_succ] at k1 k2
      have HF : Hid (BldAt ((w4.setCell ⟨g, 2, none⟩ (.bool false)).setCell ⟨g, 1, none⟩ (.int .i64 ((b.a : Int) + 1))) base g ⟨b.out ++ [b.now], b.a + 1, false, b.now⟩) := Lib.hid
        ⟨O2, q + 1, d2, _, X, y, c, by simpa using (hb4.set_ 2 (.bool false)).set_ 1 (.int .i64 ((b.a : Int) + 1)), Own.setCell (Own.setCell hO4 h4 _) h4 _, (hE4.setCell h4 _).setCell h4 _, ⟨h4, by simpa using hsz⟩, fun hh => by cases hh⟩
      have HK : Hid (KeepsB w ((w4.setCell ⟨g, 2, none⟩ (.bool false)).setCell ⟨g, 1, none⟩ (.int .i64 ((b.a : Int) + 1))) g base) := Lib.hid (hK4.trans (KeepsB.set.trans KeepsB.set))
      clear hb4 hO4 hE4 hK4
      go_wp2_with fail
      go_end0
      exact ⟨rfl, by rw [HE.out]; exact HF.out, HK.out⟩
end Go.Proofs.Ythphlghblmindaa
