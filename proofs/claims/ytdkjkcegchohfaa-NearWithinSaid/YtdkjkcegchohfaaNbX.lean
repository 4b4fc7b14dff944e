/-
  The walk of NearWithin.
-/
import Derived.Test.YtdkjkcegchohfaaNbV
import Derived.Test.YtdkjkcegchohfaaNbB
namespace Go.Proofs.Ytdkjkcegchohfaa
open Go.RowKit
set_option linter.unusedVariables false
set_option linter.unusedSimpArgs false
attribute [local go_sem] Oper.semAt_some

theorem strict_eq {α : Type} {r : α → α → Prop} (hi : ∀ a, ¬ r a a) (ht : ∀ a b c, r a b → r b c → r a c) : ∀ {L M : List α}, L.Pairwise r → M.Pairwise r → (∀ x, x ∈ L ↔ x ∈ M) → L = M
  | [], [], _, _, _ => rfl
  | [], y :: M, _, _, h => by have := (h y).2 (by simp); simp at this
  | x :: L, [], _, _, h => by have := (h x).1 (by simp); simp at this
  | x :: L, y :: M, h1, h2, h => by
    obtain ⟨a1, b1⟩ := List.pairwise_cons.1 h1
    obtain ⟨a2, b2⟩ := List.pairwise_cons.1 h2
    have e : x = y := by
      rcases List.mem_cons.1 ((h x).1 (by simp)) with e | hm
      · exact e
      · rcases List.mem_cons.1 ((h y).2 (by simp)) with e | hm'
        · exact e.symm
        · exact absurd (ht _ _ _ (a1 y hm') (a2 x hm)) (hi x)
    subst e
    congr 1
    refine strict_eq hi ht b1 b2 fun z => ?_
    constructor
    · intro hz
      rcases List.mem_cons.1 ((h z).1 (by simp [hz])) with e | hm
      · subst e; exact absurd (a1 z hz) (hi z)
      · exact hm
    · intro hz
      rcases List.mem_cons.1 ((h z).2 (by simp [hz])) with e | hm
      · subst e; exact absurd (a2 z hz) (hi z)
      · exact hm
theorem sortedN_strict {L : List (Nat × Nat)} (hs : SortedN L) (hn : (L.map Prod.fst).Nodup) : L.Pairwise fun x y => x.2 < y.2 ∨ (x.2 = y.2 ∧ x.1 < y.1) := by
  induction L with
  | nil => exact List.Pairwise.nil
  | cons p L ih =>
    obtain ⟨a, b⟩ := List.pairwise_cons.1 hs
    rw [List.map_cons, List.nodup_cons] at hn
    refine List.pairwise_cons.2 ⟨fun q hq => ?_, ih b hn.2⟩
    have h1 := a q hq
    have h2 : p.1 ≠ q.1 := fun e => hn.1 (List.mem_map.2 ⟨q, hq, e.symm⟩)
    omega
theorem book_book : dist (chars ⟨#[98, 111, 111, 107]⟩) (chars ⟨#[98, 111, 111, 107]⟩) = 0 := by
  simp [dist, chars, lev]
theorem boo_book : dist (chars ⟨#[98, 111, 111]⟩) (chars ⟨#[98, 111, 111, 107]⟩) = 1 := by
  simp [dist, chars, lev]
theorem cape_book : dist (chars ⟨#[99, 97, 112, 101]⟩) (chars ⟨#[98, 111, 111, 107]⟩) = 4 := by
  simp [dist, chars, lev]
theorem within_book {t : BK} {L : List (Nat × Nat)} (ht : t.ws = [chars ⟨#[98, 111, 111, 107]⟩, chars ⟨#[98, 111, 111]⟩, chars ⟨#[99, 97, 112, 101]⟩]) (h : HitsB t (chars ⟨#[98, 111, 111, 107]⟩) 1 (fun x => x < t.ws.length) L) (hs : SortedN L) : L = [(0, 0), (1, 1)] := by
  have e0 : t.W 0 = chars ⟨#[98, 111, 111, 107]⟩ := by unfold BK.W; rw [ht]; rfl
  have e1 : t.W 1 = chars ⟨#[98, 111, 111]⟩ := by unfold BK.W; rw [ht]; rfl
  have e2 : t.W 2 = chars ⟨#[99, 97, 112, 101]⟩ := by unfold BK.W; rw [ht]; rfl
  have hl : t.ws.length = 3 := by rw [ht]; rfl
  refine strict_eq (fun a h => by omega) (fun a b c h1 h2 => by omega) (sortedN_strict hs h.1) (by simp) fun p => ?_
  obtain ⟨x, d⟩ := p
  rw [h.2, hl]
  constructor
  · rintro ⟨h1, h2, h3⟩
    rcases (show x = 0 ∨ x = 1 ∨ x = 2 by omega) with rfl | rfl | rfl
    · rw [e0, book_book] at h2; subst h2; simp
    · rw [e1, boo_book] at h2; subst h2; simp
    · rw [e2, cape_book] at h2; omega
  · intro h
    simp only [List.mem_cons, Prod.mk.injEq, List.not_mem_nil, or_false] at h
    rcases h with ⟨rfl, rfl⟩ | ⟨rfl, rfl⟩
    · rw [e0, book_book]; omega
    · rw [e1, boo_book]; omega
theorem good_book3 : GoodW [chars ⟨#[98, 111, 111, 107]⟩, chars ⟨#[98, 111, 111]⟩, chars ⟨#[99, 97, 112, 101]⟩] :=
  ⟨by simp, by simp, fun i hi => by
    simp at hi
    rcases (show i = 0 ∨ i = 1 ∨ i = 2 by omega) with rfl | rfl | rfl <;> decide⟩
theorem GoodW.rev {ls : List (List Int)} (h : GoodW ls) : GoodW ls.reverse :=
  ⟨by simpa using h.1, by simpa using h.2.1, fun i hi => by
    simp at hi
    have : gL ls.reverse i = gL ls (ls.length - 1 - i) := by
      unfold gL
      rw [List.getElem?_reverse hi]
    rw [this]
    exact h.2.2 _ (by omega)⟩
/-- How many are near. -/
def nearK (ls : List (List Int)) (q : List Int) (K : Nat) : Nat := ls.countP fun x => decide (dist x q ≤ K)
theorem range_map_W (t : BK) : (List.range t.ws.length).map t.W = t.ws := by
  apply List.ext_getElem
  · simp
  · intro i h1 h2
    simp [BK.W, List.getD, h2]
theorem hits_count {t : BK} {q : List Int} {K : Nat} {L : List (Nat × Nat)} (h : HitsB t q K (fun x => x < t.ws.length) L) : L.length = nearK t.ws q K := by
  have h1 : (L.map Prod.fst).Perm ((List.range t.ws.length).filter fun i => decide (dist (t.W i) q ≤ K)) := by
    refine (List.perm_ext_iff_of_nodup h.1 (List.nodup_range.filter _)).2 fun x => ?_
    rw [List.mem_filter, List.mem_range]
    constructor
    · intro hx
      obtain ⟨⟨_, d⟩, hm, rfl⟩ := List.mem_map.1 hx
      obtain ⟨a, rfl, c⟩ := (h.2 _ _).1 hm
      exact ⟨a, by simpa using c⟩
    · rintro ⟨a, b⟩
      exact List.mem_map.2 ⟨(x, dist (t.W x) q), (h.2 _ _).2 ⟨a, rfl, by simpa using b⟩, rfl⟩
  have h2 := h1.length_eq
  rw [List.length_map, ← List.countP_eq_length_filter] at h2
  rw [h2]
  unfold nearK
  conv => rhs; rw [← range_map_W t]
  rw [List.countP_map]
  rfl
theorem nearK_step {ls : List (List Int)} {q : List Int} {K j : Nat} (h : j < ls.length) : nearK (ls.take (j + 1)) q K = nearK (ls.take j) q K + if dist (gL ls j) q ≤ K then 1 else 0 := by
  unfold nearK
  rw [← take_gL h, List.countP_append]
  simp [List.countP_cons]
end Go.Proofs.Ytdkjkcegchohfaa
