/-
  spoil at numbers, and what it leaves.
-/
import Derived.Test.YtbhbakejpgndmaaOwn
namespace Go.Proofs.Ytbhbakejpgndmaa
open Go.RowKit
set_option linter.unusedVariables false
set_option linter.unusedSimpArgs false

/-! spoil -/
/-- A row of numbers, whatever it holds. -/
def RowB (w : World) (v : Value) (a b : Nat) : Prop := ∃ g n c cur, v = .slice (some ⟨g, 0, none⟩) n c ∧ Blk w g 3 cur ∧ cur.size = c ∧ c ≤ maxLen ∧ n ≤ c ∧ (a ≤ g ∧ g < b)
theorem RowB.ext {w w' : World} {v : Value} {a b : Nat} (h : RowB w v a b) (he : Ext w w') : RowB w' v a b := let ⟨g, n, c, cur, h1, h2, h3⟩ := h; ⟨g, n, c, cur, h1, h2.ext he, h3⟩
theorem RowB.wide {w : World} {v : Value} {a a' b b' : Nat} (h : RowB w v a b) (ha : a' ≤ a) (hb : b ≤ b') : RowB w v a' b' := let ⟨g, n, c, cur, h1, h2, h3, h4, h5, h6, h7⟩ := h; ⟨g, n, c, cur, h1, h2, h3, h4, h5, by omega, by omega⟩
theorem Amp.rowB {w : World} {b : Nat} {v : Value} {l : List Int} {x : Int} (h : Amp w b v l x) : RowB w v b w.heap.size := by
  obtain ⟨A, n, c, rfl, h1, h2⟩ := h
  have hh : Own w b 3 1 (some A) (n + 2) c ((l ++ [x, x]).map (Value.int .i64)) := h1
  obtain ⟨_, h3⟩ := hh
  rcases h3 with ⟨h3, h4⟩ | ⟨g, cap, cur, hv, hb, hg, hn, hcap, hcur, ht⟩
  · cases h3
  · cases hv
    exact ⟨g, n, c, cur, rfl, hg, by omega, hcap, by omega, hb, Blk.lt hg⟩
/-- From w to w' blocks below b have been written. -/
def GrowLow (b : Nat) (w w' : World) : Prop := ∀ P : World → Prop, (∀ a c g, P a → a.grownBy c (some g) → g < b → P c) → P w → P w'
theorem GrowLow.refl (b : Nat) (w : World) : GrowLow b w w := fun _ _ h => h
theorem GrowLow.step {b : Nat} {w a c : World} {g : Nat} (h : GrowLow b w a) (hg : a.grownBy c (some g)) (hb : g < b) : GrowLow b w c := fun P h1 h2 => h1 a c g (h P h1 h2) hg hb
theorem GrowLow.ownI {b bb : Nat} {w w' : World} (h : GrowLow b w w') {A : Option Addr} {n c : Nat} {l : List Int} (ho : OwnI w bb A n c l) (hb : b ≤ bb) : OwnI w' bb A n c l :=
  h (fun x => OwnI x bb A n c l) (fun a c' g h1 h2 h3 => Own.kept h1 h2 (by
    cases hq : (Value.slice A n c).ownBlock with
    | none => exact .inl rfl
    | some q => exact .inr (fun e => by injection e with e; have := (Own.blk h1 q hq).1; omega))) ho
theorem GrowLow.ext {b : Nat} {w0 w w' : World} (h : GrowLow b w w') (hx : Ext w0 w) (hs : ∀ a c g, a.grownBy c (some g) → g < b → Ext w0 a → Ext w0 c) : Ext w0 w' := h (Ext w0) (fun a c g h1 h2 h3 => hs a c g h2 h3 h1) hx

set_option maxRecDepth 20000 in
set_option maxHeartbeats 4000000 in
theorem spoil_row {v : Value} {a b : Nat} {x : Int} {w : World} (h : RowB w v a b) :
    Calls Try.prog 25 #[v, .int .i64 x] w fun e w' => (∃ u, e = .returned u) ∧ ∃ g, (a ≤ g ∧ g < b) ∧ w.grownBy w' (some g) ∧ (∃ cs, Blk w g 3 cs) ∧ ∀ v2 a2 b2, RowB w v2 a2 b2 → RowB w' v2 a2 b2 := by
  obtain ⟨g, n, c, cur, rfl, hg, hcl, hcm, hnc, hgb⟩ := h
  unfold maxLen at hcm
  have hb0 : Hid (Blk w g 3 cur) := Lib.hid hg
  have hgr : Hid (w.grownBy w (some g)) := Lib.hid (World.grownBy.refl _ _)
  have hcz := Lib.hid hcl
  have hbw : Hid (∃ cs, Blk w g 3 cs) := Lib.hid ⟨_, hg⟩
  clear hg hcl
  go_enter Try.func25, Try.ntmps25
  go_wp2_with fail
  go_loopw [11] (fun s wx => ∃ (k : Nat) (cs : Array Value), k ≤ c ∧ s = .int .i64 k ∧ Hid (Blk wx g 3 cs) ∧ Hid (cs.size = c) ∧ Hid (w.grownBy wx (some g))) (fun s _ => c - (intOf s).toNat)
  case atStart => exact ⟨0, cur, by omega, rfl, hb0, hcz, hgr⟩
  case round =>
    have HC0 : Hid (∀ (c2 : Nat) (cur2 : Array Value), Blk w g 3 cur2 → cur2.size = c2 → c2 = c) := Lib.hid fun c2 cur2 h1 h2 => by
      have h3 : Blk w g 3 cur := hb0.out
      have h4 := hcz.out
      unfold Blk at h1 h3
      rw [h1] at h3
      injection h3 with h3
      injection h3 with h3
      rw [h3] at h2
      omega
    clear hb0 hcz hgr
    obtain ⟨k, cs, hk, rfl, Hb, Hs, Hg⟩ := hrel
    by_cases hlt : k < c
    · have hcell : wr.cell? ⟨g, k, none⟩ = some (cs[k]'(by rw [Hs.out]; exact hlt)) := by rw [Hb.out.cell k, Array.getElem?_eq_getElem]
      have hfr := Hb.out.frozen k
      go_wp2_with fail
      go_roundw
      case rel =>
        refine ⟨k + 1, cs.setIfInBounds k (.int .i64 x), by omega, by go_num, Lib.hid (Hb.out.set_ k _), Lib.hid (by simpa using Hs.out), Lib.hid ?_⟩
        exact grownBy_trans Hg.out (grownBy_set wr ⟨g, k, none⟩ (.int .i64 x))
      case measure => simp [intOf]; omega
    · obtain rfl : k = c := by omega
      have hend := Hg.out
      have HFIN : Hid (∀ v2 a2 b2, RowB w v2 a2 b2 → RowB wr v2 a2 b2) := Lib.hid (by
        rintro v2 a2 b2 ⟨g2, n2, c2, cur2, e1, e2, e3, e4, e5, e6⟩
        by_cases hgg : g2 = g
        · subst hgg
          exact ⟨g2, n2, c2, cs, e1, Hb.out, by rw [Hs.out]; exact (HC0.out c2 cur2 e2 e3).symm, e4, e5, e6⟩
        · exact ⟨g2, n2, c2, cur2, e1, e2.grown hend (fun e => hgg (by injection e)), e3, e4, e5, e6⟩)
      clear Hb Hs Hg
      go_wp2_with fail
      go_end0
      exact ⟨⟨_, rfl⟩, g, hgb, hend, hbw.out, HFIN.out⟩

theorem ext_spoilt {w0 a c : World} {g : Nat} (h : Ext w0 a) (hg : a.grownBy c (some g)) (hb : w0.heap.size ≤ g) : Ext w0 c := Below.grown h hg h.size (fun k hk => by injection hk with hk; omega)
end Go.Proofs.Ytbhbakejpgndmaa
