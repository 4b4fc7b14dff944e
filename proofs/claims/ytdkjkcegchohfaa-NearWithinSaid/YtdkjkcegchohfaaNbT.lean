/-
  Within, Best.
-/
import Derived.Test.YtdkjkcegchohfaaNbS
namespace Go.Proofs.Ytdkjkcegchohfaa
open Go.RowKit Go.Sort
set_option linter.unusedVariables false
set_option linter.unusedSimpArgs false
attribute [local go_sem] Oper.semAt_some

set_option maxRecDepth 20000 in
set_option maxHeartbeats 1000000 in
theorem withinT_ok {t : BK} {ns : Nat → BkN} {m d b0 : Nat} {most : Int} {Q : Option Addr} {q : List Int} {w : World} (ho : t.Ok) (hb : BkIs w b0 t ns) (hq : Ints w Q m d q) :
    Calls Try.prog 21 #[(ns 0).ptr, .slice Q m d, .int .i64 most] w fun e w' => Ext w w' ∧
      ((200 < m ∧ e = .returned (.tuple #[.slice none 0 0, .int .i64 2])) ∨ (m ≤ 200 ∧ most < 0 ∧ e = .returned (.tuple #[.slice none 0 0, .int .i64 1])) ∨
       (m ≤ 200 ∧ 0 ≤ most ∧ ∃ A n c L, e = .returned (.tuple #[.slice A n c, .int .i64 0]) ∧ OwnN w' w.heap.size A n c L ∧ HitsB t q (min most.toNat 200) (fun x => x < t.ws.length) L ∧ SortedN L)) := by
  have hm := Nat.le_trans hq.ncap hq.nmax
  unfold maxLen at hm
  unfold BkN.ptr
  by_cases h1 : 200 < m
  · go_enter Try.func21, Try.ntmps21
    go_wp2_with fail
    go_ret2
    exact ⟨Ext.refl _, .inl ⟨h1, rfl⟩⟩
  by_cases h2 : most < 0
  · go_enter Try.func21, Try.ntmps21
    go_wp2_with fail
    go_ret2
    exact ⟨Ext.refl _, .inr (.inl ⟨by omega, h2, rfl⟩)⟩
  obtain ⟨M, hM⟩ : ∃ M : Nat, M = min most.toNat 200 := ⟨_, rfl⟩
  have hM2 : M ≤ 200 := by omega
  have hmi : Hid ((M : Int) = min most 200) := Lib.hid (by omega)
  have hc := within_ok t.ws.length (most := M) (i := 0) (S := fun _ => False) (L := []) (w := w) (w0 := w) (A := none) (n := 0) (c := 0) (by omega) hb.pos ho hb hq (by omega) hM2 (Ext.refl _) (Own.nil _ _ _ _) (HitsB.none (fun x h => h.elim)) (fun x h => h.elim) (fun x h _ => h)
  have HALL : Hid (∀ x, (False ∨ Und t 0 x) ↔ x < t.ws.length) := Lib.hid (fun x => ⟨fun h => by rcases h with h | h; exact h.elim; exact h.lt ho hb.pos, fun h => .inr (ho.all x h)⟩)
  unfold BkN.ptr at hc
  have hT100 := hb.max
  have HM := Lib.hid hM
  clear ho hb hM
  go_enter Try.func21, Try.ntmps21
  go_wp2_with fail
  rw [← hmi.out]
  refine hc.mono ?_
  rintro e w1 ⟨v, rfl, A, n, c, L, rfl, hO, hL, hg, hbk⟩
  have he1 : Ext w w1 := Ext.grown (Ext.refl w) hg (World.ownsRow_nil w w.heap.size 53 2) (Nat.le_refl _)
  have hs := hits_len hL (N := 100) (fun x hx => Nat.lt_of_lt_of_le ((HALL.out x).1 hx) hT100)
  rw [hO.len] at hs
  have HL := Lib.hid hL
  clear hL hc hbk hg
  go_wp2_with fail
  refine (sortN_ok hO (by omega)).mono ?_
  rintro e w2 ⟨rfl, hO2, hg2⟩
  have he2 : Ext w w2 := Ext.grown he1 hg2 hO (Nat.le_refl _)
  go_wp2_with fail
  go_ret2
  refine ⟨he2, .inr (.inr ⟨by omega, by omega, A, n, c, _, rfl, hO2, ?_, sortL_sorted _⟩)⟩
  rw [← HM.out]
  exact (HL.out.perm (sortL_perm _)).congr (fun x => (HALL.out x).symm)

/-- What Best gives: no word is nearer, none as near comes ahead. -/
def BestB (t : BK) (q : List Int) (x d : Nat) : Prop := x < t.ws.length ∧ d = dist (t.W x) q ∧ ∀ j, j < t.ws.length → d < dist (t.W j) q ∨ (d = dist (t.W j) q ∧ x ≤ j)
theorem best_of {t : BK} {q : List Int} {most : Nat} {p : Nat × Nat} {L : List (Nat × Nat)} (h : HitsB t q most (fun x => x < t.ws.length) (p :: L)) (hs : SortedN (p :: L)) : BestB t q p.1 p.2 := by
  obtain ⟨h1, h2, h3⟩ := (h.2 p.1 p.2).1 (by simp)
  refine ⟨h1, h2, fun j hj => ?_⟩
  by_cases hd : dist (t.W j) q ≤ most
  · have := (h.2 j _).2 ⟨hj, rfl, hd⟩
    rcases List.mem_cons.1 this with e | hm
    · rw [← e]; exact .inr ⟨rfl, Nat.le_refl _⟩
    · have := (List.pairwise_cons.1 hs).1 _ hm
      simp only at this
      omega
  · left; omega
theorem near_cell {w : World} {base n c : Nat} {A : Option Addr} {p : Nat × Nat} {L : List (Nat × Nat)} (h : OwnN w base A n c (p :: L)) : ∃ g, A = some ⟨g, 0, none⟩ ∧ w.cell? ⟨g, 0, none⟩ = some (.int .i64 p.1) ∧ w.cell? ⟨g, 1, none⟩ = some (.int .i64 p.2) := by
  have hl := h.len
  simp at hl
  obtain ⟨ad, e, hc⟩ := (Own.rd h).at_ (k := 0) (by omega)
  rcases h.2 with ⟨_, h0⟩ | ⟨g, cap, cur, hv, _⟩
  · omega
  · injection hv with hA _ _
    rw [hA] at e
    injection e with e
    subst e
    have c0 := hc 0 _ rfl
    have c1 := hc 1 _ rfl
    rw [Addr.add_lit] at c0 c1
    exact ⟨g, hA, c0, c1⟩

set_option maxRecDepth 20000 in
set_option maxHeartbeats 1000000 in
theorem bestT_ok {t : BK} {ns : Nat → BkN} {m d b0 : Nat} {Q : Option Addr} {q : List Int} {w : World} (ho : t.Ok) (hb : BkIs w b0 t ns) (hq : Ints w Q m d q) :
    Calls Try.prog 19 #[(ns 0).ptr, .slice Q m d] w fun e w' => Ext w w' ∧
      ((200 < m ∧ e = .returned (.tuple #[.int .i64 0, .int .i64 0, .int .i64 2])) ∨ (m ≤ 200 ∧ ∃ x d, BestB t q x d ∧ e = .returned (.tuple #[.int .i64 x, .int .i64 d, .int .i64 0]))) := by
  have HW : Hid (∀ (W : World) (k : Nat), Ext w W → Calls Try.prog 21 #[.pointer (some ⟨(ns 0).a, 0, none⟩), .slice Q m d, .int .i64 k] W fun e w' => Ext W w' ∧
      ((200 < m ∧ e = .returned (.tuple #[.slice none 0 0, .int .i64 2])) ∨
       (m ≤ 200 ∧ ∃ A n c L, e = .returned (.tuple #[.slice A n c, .int .i64 0]) ∧ OwnN w' W.heap.size A n c L ∧ HitsB t q (min k 200) (fun x => x < t.ws.length) L ∧ SortedN L))) := Lib.hid (fun W k he => (withinT_ok (most := k) ho (hb.ext he) (hq.ext he)).mono fun e w' ⟨h1, h2⟩ => ⟨h1, by
    rcases h2 with h | ⟨_, h, _⟩ | ⟨h1, _, A, n, c, L, h2, h3, h4, h5⟩
    · exact .inl h
    · omega
    · exact .inr ⟨h1, A, n, c, L, h2, h3, by simpa using h4, h5⟩⟩)
  have H0 : Hid (∀ k, m ≤ 200 → 200 ≤ k → ¬ HitsB t q (min k 200) (fun x => x < t.ws.length) []) := Lib.hid (fun k hm hk h => by
    have h0 := hb.pos
    have h1 := (hb.node 0 h0).2.2.1.len
    have h2 := hb.len 0 h0
    have := (h.2 0 (dist (t.W 0) q)).2 ⟨h0, rfl, by
      have := dist_le (a := t.W 0) (b := q) (n := 200) (by omega) (by rw [hq.len]; exact hm)
      omega⟩
    simp at this)
  unfold BkN.ptr
  clear ho hb hq
  go_enter Try.func19, Try.ntmps19
  go_wp2_with fail
  go_loopw [7] (fun i wr => ∃ k : Nat, k ≤ 399 ∧ i = .int .i64 k ∧ Ext w wr) (fun i _ => 400 - (intOf i).toNat)
  case atStart => exact ⟨0, by omega, rfl, Ext.refl _⟩
  case round =>
    obtain ⟨k, hk, rfl, he⟩ := hrel
    go_wp2_with fail
    refine (HW.out _ k he).mono ?_
    rintro e w1 ⟨he1, ⟨h, rfl⟩ | ⟨h1, A, n, c, L, rfl, hO, hL, hS⟩⟩
    · go_wp2_with fail
      go_ret3
      exact ⟨he.trans he1, .inl ⟨h, rfl⟩⟩
    · have hnl := hO.len
      cases L with
      | nil =>
        have hk2 : k < 200 := by
          rcases Nat.lt_or_ge k 200 with h | h
          · exact h
          · exact absurd hL (H0.out k h1 h)
        obtain rfl : n = 0 := by simpa using hnl.symm
        clear hO hL hS
        go_wp2_with fail
        go_roundw
        case rel => exact ⟨2 * k + 1, by omega, by go_num, he.trans he1⟩
        case measure => simp [intOf]; omega
      | cons p L =>
        have hn : 0 < n := by simp at hnl; omega
        obtain ⟨g, rfl, c0, c1⟩ := near_cell hO
        have HB := Lib.hid (best_of hL hS)
        clear hL hS hO hnl
        go_wp2_with fail
        go_quiet (fail)
        go_wp2_with fail
        go_ret3
        exact ⟨(he.trans he1).to_drewN _, .inr ⟨h1, p.1, p.2, HB.out, rfl⟩⟩
end Go.Proofs.Ytdkjkcegchohfaa
