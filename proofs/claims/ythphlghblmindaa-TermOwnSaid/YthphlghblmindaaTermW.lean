/-
  term.one: the walk.
-/
import Derived.Test.YthphlghblmindaaTermM
import Derived.IntWalk
import Derived.BigRegion
namespace Go.Proofs.Ythphlghblmindaa
open Go.RowKit
set_option linter.unusedVariables false
set_option linter.unusedSimpArgs false

theorem Own.setNeT {w : World} {base e z n c : Nat} {A : Option Addr} {xs : List Value} (h : Own w base e z A n c xs) {p : Addr} (hp : ∀ g, (Value.slice A n c).ownBlock = some g → g ≠ p.block) (u : Value) : Own (w.setCell p u) base e z A n c xs := by
  obtain ⟨h1, h2⟩ := h
  refine ⟨h1, ?_⟩
  rcases h2 with h2 | ⟨g, cap, cur, hv, hb, hg, r⟩
  · exact .inl h2
  · have hne : g ≠ p.block := hp g (by rw [hv]; rfl)
    refine .inr ⟨g, cap, cur, hv, hb, ?_, r⟩
    have : (w.setCell p u).heap[g]? = w.heap[g]? := by
      unfold World.setCell
      simp only [Array.getElem?_modify]
      rw [if_neg (by omega)]
    rw [this]; exact hg
/-- What writing to these two blocks leaves. -/
def Keeps2 (w w' : World) (g s : Nat) : Prop := ∀ w0 : World, Ext w0 w → w0.heap.size ≤ g → w0.heap.size ≤ s → Ext w0 w'
theorem Keeps2.refl (w : World) (g s : Nat) : Keeps2 w w g s := fun _ h _ _ => h
theorem Keeps2.trans {a b c : World} {g s : Nat} (h : Keeps2 a b g s) (k : Keeps2 b c g s) : Keeps2 a c g s := fun w0 h0 h1 h2 => k w0 (h w0 h0 h1 h2) h1 h2
theorem Keeps2.ext {a b : World} {g s : Nat} (h : Ext a b) : Keeps2 a b g s := fun w0 h0 _ _ => h0.trans h
theorem Keeps2.setG {w : World} {g s i : Nat} {u : Value} : Keeps2 w (w.setCell ⟨g, i, none⟩ u) g s := fun w0 h0 h1 _ => h0.setCell h1 _
theorem Keeps2.setS {w : World} {g s i : Nat} {u : Value} : Keeps2 w (w.setCell ⟨s, i, none⟩ u) g s := fun w0 h0 _ h2 => h0.setCell h2 _

theorem RowAt.ext {w w' : World} {base g s n d : Nat} {r : List Int × Nat} (h : RowAt w base g s n d r) (he : Ext w w') : RowAt w' base g s n d r := ⟨h.1.ext he, h.2.1.ext he, h.2.2⟩
theorem RowAt.len {w : World} {base g s n d : Nat} {r : List Int × Nat} (h : RowAt w base g s n d r) : r.1.length = n := h.2.1.ints.len
theorem RowAt.setAt {w : World} {base g s n d : Nat} {r : List Int × Nat} (h : RowAt w base g s n d r) (a : Nat) : RowAt (w.setCell ⟨g, 1, none⟩ (.int .i64 a)) base g s n d (r.1, a) := by
  obtain ⟨h1, h2, h3⟩ := h
  refine ⟨by simpa using h1.set_ 1 (.int .i64 a), Own.setNeT h2 (fun q hq => ?_) _, h3⟩
  have hq : some s = some q := hq
  injection hq with hq
  subst hq; exact h3
theorem RowAt.setCell {w : World} {base g s n d : Nat} {r : List Int × Nat} (h : RowAt w base g s n d r) (i : Nat) (v : Int) : RowAt (w.setCell ⟨s, i, none⟩ (.int .i64 v)) base g s n d (r.1.set i v, r.2) := by
  obtain ⟨h1, h2, h3⟩ := h
  refine ⟨h1.keepCell h3 _, ?_, h3⟩
  have := (World.ownsRow.stored h2 i (.int .i64 v)).1
  unfold OwnI Own
  rw [List.map_set]
  exact this
theorem RowAt.cellAt {w : World} {base g s n d : Nat} {r : List Int × Nat} (h : RowAt w base g s n d r) {k : Nat} (hk : k < n) : w.cell? ⟨s, k, none⟩ = some (.int .i64 (gI r.1 k)) := by
  have hl := h.len
  have := World.ownsRow.cellAt h.2.1 k (by omega)
  rw [this]
  simp [gI, show k < r.1.length by omega]
theorem RowAt.frozenAt {w : World} {base g s n d : Nat} {r : List Int × Nat} (h : RowAt w base g s n d r) (k : Nat) : w.frozen? ⟨s, k, none⟩ = false := World.ownsRow.frozenAt h.2.1 k

/-- Erased up to i. -/
def erL (cs : List Int) (a i : Nat) : List Int := cs.take a ++ List.replicate (i - a) 32 ++ cs.drop i
theorem erL_start (cs : List Int) (a : Nat) : erL cs a a = cs := by simp [erL]
theorem erL_end (cs : List Int) (a : Nat) : erL cs a cs.length = cs.take a ++ List.replicate (cs.length - a) 32 := by simp [erL]
theorem erL_set {cs : List Int} {a i : Nat} (ha : a ≤ i) (hi : i < cs.length) : (erL cs a i).set i 32 = erL cs a (i + 1) := by
  unfold erL
  have hl : (cs.take a ++ List.replicate (i - a) (32 : Int)).length = i := by simp; omega
  rw [List.set_append_right _ _ (by omega), hl, Nat.sub_self, List.drop_eq_getElem_cons hi, List.set_cons_zero, show i + 1 - a = (i - a) + 1 by omega, List.replicate_succ']
  simp

set_option maxRecDepth 20000 in
set_option maxHeartbeats 4000000 in
theorem one_ok {w : World} {base g s n d : Nat} {r : List Int × Nat} {c : Int} (h : RowAt w base g s n d r) (hn : n ≤ 120) (ha : r.2 ≤ n) :
    Calls Try.prog 61 #[.pointer (some ⟨g, 0, none⟩), .int .i64 c] w fun e w' => e = .returned (.tuple #[]) ∧ RowAt w' base g s n d (stepR r c) ∧ Keeps2 w w' g s := by
  obtain ⟨cs, a⟩ := r
  have hlen := Lib.hid h.len
  have ha : a ≤ n := ha
  have k0 := h.1.cell 0
  have k1 := h.1.cell 1
  have f1 := h.1.frozen 1
  simp only [List.getElem?_toArray, List.getElem?_cons_zero, List.getElem?_cons_succ] at k0 k1
  have HR := Lib.hid h
  clear h
  by_cases h8 : c = 8
  · subst h8
    have HS : Hid (stepR (cs, a) 8 = (cs, a - 1)) := Lib.hid rfl
    rcases Nat.eq_zero_or_pos a with h0 | h0
    · subst h0
      go_enter Try.func61, Try.ntmps61
      go_wp2_with fail
      go_end0
      exact ⟨rfl, by rw [HS.out]; exact HR.out.setAt 0, Keeps2.setG⟩
    · obtain ⟨a1, ha1⟩ : ∃ a1, a1 = a - 1 := ⟨_, rfl⟩
      have e1 : (a : Int) - 1 = (a1 : Int) := by omega
      have HA := Lib.hid ha1
      clear ha1
      go_enter Try.func61, Try.ntmps61
      go_wp2_with fail
      all_goals
        go_end0
        exact ⟨rfl, by rw [HS.out, ← HA.out]; first | exact HR.out.setAt a1 | (have := HR.out.setAt a1; rw [show a1 = 0 by omega] at this ⊢; exact this), Keeps2.setG⟩
  · have b8 : (c == 8) = false := by simpa using h8
    by_cases h13 : c = 13
    · subst h13
      have HS : Hid (stepR (cs, a) 13 = (cs, 0)) := Lib.hid rfl
      clear h8
      go_enter Try.func61, Try.ntmps61
      go_wp2_with fail
      go_end0
      exact ⟨rfl, by rw [HS.out]; exact HR.out.setAt 0, Keeps2.setG⟩
    · have b13 : (c == 13) = false := by simpa using h13
      by_cases h11 : c = 11
      · subst h11
        have HS : Hid (stepR (cs, a) 11 = (erL cs a n, a)) := Lib.hid (by
          have : stepR (cs, a) 11 = (cs.take a ++ List.replicate (cs.length - a) 32, a) := rfl
          rw [this, ← hlen.out, erL_end])
        clear h8 h13
        go_enter Try.func61, Try.ntmps61
        go_wp2_with fail
        go_loopw [4] (fun v wr => ∃ i : Nat, a ≤ i ∧ i ≤ n ∧ v = .int .i64 i ∧ RowAt wr base g s n d (erL cs a i, a) ∧ Keeps2 w wr g s) (fun v _ => n - (intOf v).toNat)
        case atStart => exact ⟨a, by omega, by omega, rfl, by rw [erL_start]; exact HR.out, Keeps2.refl _ _ _⟩
        case round =>
          clear k0 k1 f1
          obtain ⟨i, hai, hin, rfl, hr, hk⟩ := hrel
          have k0 := hr.1.cell 0
          simp only [List.getElem?_toArray, List.getElem?_cons_zero, List.getElem?_cons_succ] at k0
          by_cases hlt : i < n
          · have c1 := hr.cellAt hlt
            have f1 := hr.frozenAt i
            have HN : Hid (RowAt (wr.setCell ⟨s, i, none⟩ (.int .i64 32)) base g s n d (erL cs a (i + 1), a)) := Lib.hid (by
              have := hr.setCell i 32
              rw [erL_set hai (by rw [hlen.out]; exact hlt)] at this
              exact this)
            go_wp2_with fail
            go_roundw
            case rel => exact ⟨i + 1, by omega, by omega, by go_num, HN.out, hk.trans Keeps2.setS⟩
            case measure => simp [intOf]; omega
          · obtain rfl : i = n := by omega
            go_wp2_with fail
            go_end0
            exact ⟨rfl, by rw [HS.out]; exact hr, hk⟩
      · have b11 : (c == 11) = false := by simpa using h11
        have HS : Hid (stepR (cs, a) c = if 32 ≤ c ∧ c ≠ 127 ∧ a < n then (cs.set a c, a + 1) else (cs, a)) := Lib.hid (by
          unfold stepR
          rw [if_neg h8, if_neg h13, if_neg h11]
          simp only [hlen.out])
        clear h8 h13 h11
        by_cases h32 : 32 ≤ c
        · have d1 : decide (32 ≤ c) = true := by simpa using h32
          by_cases h127 : c = 127
          · have HS2 : Hid (stepR (cs, a) c = (cs, a)) := Lib.hid (by rw [HS.out, if_neg (fun hh => hh.2.1 h127)])
            subst h127
            clear HS
            go_enter Try.func61, Try.ntmps61
            go_wp2_with fail
            go_quiet (fail)
            go_wp2_with fail
            go_end0
            exact ⟨rfl, by rw [HS2.out]; exact HR.out.ext (Ext.drewN _ _), Keeps2.ext (Ext.drewN _ _)⟩
          · have b127 : (c != 127) = true := by simpa using h127
            have b127' : (c == 127) = false := by simpa using h127
            by_cases hat : a < n
            · have HS2 : Hid (stepR (cs, a) c = (cs.set a c, a + 1)) := Lib.hid (by rw [HS.out, if_pos ⟨h32, h127, hat⟩])
              have d2 : decide (a < n) = true := by simpa using hat
              have d3 : decide ((a : Int) < (n : Int)) = true := by simp; omega
              clear HS h127
              go_enter Try.func61, Try.ntmps61
              go_wp2_with fail
              go_quiet (fail)
              have c1 := HR.out.cellAt hat
              have fs := HR.out.frozenAt a
              go_wp2_with fail
              go_region
              have HN := Lib.hid ((HR.out.ext (Ext.drewN w (nq + 1))).setCell a c)
              have HK : Hid (Keeps2 w ((w.drewN (nq + 1)).setCell ⟨s, a, none⟩ (.int .i64 c)) g s) := Lib.hid ((Keeps2.ext (Ext.drewN w (nq + 1))).trans Keeps2.setS)
              clear k0 k1 f1 c1 fs
              revert HN HK
              generalize (w.drewN (nq + 1)).setCell ⟨s, a, none⟩ (.int .i64 c) = wz
              intro HN HK
              have k1 := HN.out.1.cell 1
              have f1 := HN.out.1.frozen 1
              simp only [List.getElem?_toArray, List.getElem?_cons_zero, List.getElem?_cons_succ] at k1
              go_wp2_with fail
              go_end0
              have := HN.out.setAt (a + 1)
              exact ⟨rfl, by rw [HS2.out]; simpa using this, HK.out.trans Keeps2.setG⟩
            · have HS2 : Hid (stepR (cs, a) c = (cs, a)) := Lib.hid (by rw [HS.out, if_neg (fun hh => hat hh.2.2)])
              have d2 : decide (a < n) = false := by simpa using hat
              have d3 : decide ((a : Int) < (n : Int)) = false := by simp; omega
              clear HS h127
              go_enter Try.func61, Try.ntmps61
              go_wp2_with fail
              go_quiet (fail)
              go_wp2_with fail
              go_end0
              exact ⟨rfl, by rw [HS2.out]; exact HR.out.ext (Ext.drewN _ _), Keeps2.ext (Ext.drewN _ _)⟩
        · have HS2 : Hid (stepR (cs, a) c = (cs, a)) := Lib.hid (by rw [HS.out, if_neg (fun hh => h32 hh.1)])
          have d1 : decide (32 ≤ c) = false := by simpa using h32
          clear HS
          go_enter Try.func61, Try.ntmps61
          go_wp2_with fail
          go_quiet (fail)
          go_wp2_with fail
          go_end0
          exact ⟨rfl, by rw [HS2.out]; exact HR.out.ext (Ext.drewN _ _), Keeps2.ext (Ext.drewN _ _)⟩
end Go.Proofs.Ythphlghblmindaa
