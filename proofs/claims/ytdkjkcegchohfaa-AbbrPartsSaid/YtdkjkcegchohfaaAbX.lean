/-
  Hits, in plain words: which there are, each once; counted twice.
-/
import Derived.Test.YtdkjkcegchohfaaAbO
namespace Go.Proofs.Ytdkjkcegchohfaa
open Go.RowKit
set_option linter.unusedVariables false

theorem nodup_sub {α : Type} [BEq α] [LawfulBEq α] : ∀ {l m : List α}, l.Nodup → (∀ x ∈ l, x ∈ m) → l.length ≤ m.length
  | [], m, _, _ => Nat.zero_le _
  | a :: l, m, hn, h => by
    have hn' := List.nodup_cons.1 hn
    have ha := h a (by simp)
    have h1 := nodup_sub (m := m.erase a) hn'.2 (fun x hx => by
      have hne : x ≠ a := fun e => hn'.1 (e ▸ hx)
      exact (List.mem_erase_of_ne hne).2 (h x (by simp [hx])))
    rw [List.length_erase_of_mem ha] at h1
    have : 0 < m.length := List.length_pos_of_mem ha
    simp; omega
theorem nodup_len {α : Type} [BEq α] [LawfulBEq α] {l m : List α} (hl : l.Nodup) (hm : m.Nodup) (h : ∀ x, x ∈ l ↔ x ∈ m) : l.length = m.length :=
  Nat.le_antisymm (nodup_sub hl fun x hx => (h x).1 hx) (nodup_sub hm fun x hx => (h x).2 hx)
theorem pw_unique {α : Type} {R : α → α → Prop} (ha : ∀ a b, R a b → R b a → False) : ∀ {l m : List α}, l.Pairwise R → m.Pairwise R → (∀ x, x ∈ l ↔ x ∈ m) → l = m
  | [], [], _, _, _ => rfl
  | [], b :: m, _, _, h => absurd ((h b).2 (by simp)) (by simp)
  | a :: l, [], _, _, h => absurd ((h a).1 (by simp)) (by simp)
  | a :: l, b :: m, hl, hm, h => by
    have hl' := List.pairwise_cons.1 hl
    have hm' := List.pairwise_cons.1 hm
    have e : a = b := by
      have h1 := (h a).1 (by simp)
      have h2 := (h b).2 (by simp)
      rcases List.mem_cons.1 h1 with e | h1
      · exact e
      rcases List.mem_cons.1 h2 with e | h2
      · exact e.symm
      exact (ha a b (hl'.1 b h2) (hm'.1 a h1)).elim
    subst e
    rw [pw_unique ha hl'.2 hm'.2 (fun x => ⟨fun hx => ?_, fun hx => ?_⟩)]
    · rcases List.mem_cons.1 ((h x).1 (by simp [hx])) with e | h1
      · subst e; exact (ha _ _ (hl'.1 _ hx) (hl'.1 _ hx)).elim
      · exact h1
    · rcases List.mem_cons.1 ((h x).2 (by simp [hx])) with e | h1
      · subst e; exact (ha _ _ (hm'.1 _ hx) (hm'.1 _ hx)).elim
      · exact h1
section
variable {t : AC} {ls : List (List Int)} {fall : Nat → Nat} {s : List Int}
/-- Word i ends at place p. -/
def HitAt (ls : List (List Int)) (s : List Int) (i p : Nat) : Prop := i < ls.length ∧ gL ls i <:+ s.take p
theorem chA_at (h : t.Ok ls) (hf : ∀ i, i < t.N → i ≠ 0 → FallAt t fall i) (hg : GoodA ls) (u : List Int) : (∀ k, k ∈ chA t fall (stA t u) ↔ k < ls.length ∧ gL ls k <:+ u) ∧
    (chA t fall (stA t u)).Pairwise (fun a b => (gL ls b).length < (gL ls a).length ∨ ((gL ls a).length = (gL ls b).length ∧ a < b)) := by
  obtain ⟨h1, h2⟩ := stA_spec h u
  obtain ⟨h3, h4⟩ := chA_spec h hf (good_ne hg) _ _ h1 (Nat.le_refl _)
  refine ⟨fun k => (h3 k).trans ⟨fun ⟨a, b⟩ => ⟨a, ?_⟩, fun ⟨a, b⟩ => ⟨a, ?_⟩⟩, h4⟩
  · rw [h2] at b
    exact b.trans (lsuf_suffix u)
  · rw [h2]
    exact lsuf_max b (h.all k a)
theorem chA_nodup (h : t.Ok ls) (hf : ∀ i, i < t.N → i ≠ 0 → FallAt t fall i) (hg : GoodA ls) (u : List Int) : (chA t fall (stA t u)).Nodup :=
  (chA_at h hf hg u).2.imp (fun {a b} hab e => by subst e; omega)
theorem hit_mem (h : t.Ok ls) (hf : ∀ i, i < t.N → i ≠ 0 → FallAt t fall i) (hg : GoodA ls) : ∀ (m i p : Nat), (i, p) ∈ hitP t fall s m ↔ 1 ≤ p ∧ p ≤ m ∧ HitAt ls s i p
  | 0, i, p => by simp [hitP]; omega
  | m + 1, i, p => by
    simp only [hitP, List.mem_append, hit_mem h hf hg m i p, List.mem_map, Prod.mk.injEq]
    constructor
    · rintro (⟨a, b, c⟩ | ⟨k, hk, rfl, rfl⟩)
      · exact ⟨a, by omega, c⟩
      · exact ⟨by omega, Nat.le_refl _, ((chA_at h hf hg _).1 k).1 hk⟩
    · rintro ⟨a, b, c⟩
      by_cases e : p = m + 1
      · subst e
        exact .inr ⟨i, ((chA_at h hf hg _).1 i).2 c, rfl, rfl⟩
      · exact .inl ⟨a, by omega, c⟩
theorem hit_nodup (h : t.Ok ls) (hf : ∀ i, i < t.N → i ≠ 0 → FallAt t fall i) (hg : GoodA ls) : ∀ m : Nat, (hitP t fall s m).Nodup
  | 0 => .nil
  | m + 1 => by
    simp only [hitP]
    refine List.nodup_append.2 ⟨hit_nodup h hf hg m, ?_, fun a ha b hb e => ?_⟩
    · refine List.Pairwise.map _ (fun a b hab e => hab ?_) (chA_nodup h hf hg _)
      injection e
    · subst e
      obtain ⟨k, hk, rfl⟩ := List.mem_map.1 hb
      have := ((hit_mem h hf hg m k (m + 1)).1 ha).2.1
      omega
theorem suffix_cut {l s : List Int} {p : Nat} (h1 : l.length ≤ p) (h2 : p ≤ s.length) : l <:+ s.take p ↔ l = (s.drop (p - l.length)).take l.length := by
  have e : (s.drop (p - l.length)).take l.length = (s.take p).drop (p - l.length) := by
    rw [List.drop_take]
    congr 1; omega
  rw [e, List.suffix_iff_eq_drop, List.length_take]
  rw [show min p s.length = p by omega]
end
/-- What has been counted when word k's place p comes. -/
structure Counted (ls : List (List Int)) (s : List Int) (k p cnt : Nat) : Prop where
  ex : ∃ P : List (Nat × Nat), P.length = cnt ∧ P.Nodup ∧ ∀ i q, (i, q) ∈ P ↔ (1 ≤ q ∧ q ≤ s.length ∧ HitAt ls s i q) ∧ (i < k ∨ (i = k ∧ q < p))
theorem Counted.start (ls : List (List Int)) (s : List Int) : Counted ls s 0 0 0 := ⟨[], rfl, .nil, fun i q => by simp⟩
theorem Counted.hit {ls : List (List Int)} {s : List Int} {k p cnt : Nat} (h : Counted ls s k p cnt) (h1 : 1 ≤ p) (h2 : p ≤ s.length) (hh : HitAt ls s k p) : Counted ls s k (p + 1) (cnt + 1) := by
  obtain ⟨P, a, b, c⟩ := h.ex
  refine ⟨P ++ [(k, p)], by simp [a], List.nodup_append.2 ⟨b, by simp, fun x hx y hy e => ?_⟩, fun i q => ?_⟩
  · rw [List.mem_singleton.1 hy] at e
    subst e
    have := ((c k p).1 hx).2
    omega
  · rw [List.mem_append, c, List.mem_singleton, Prod.mk.injEq]
    constructor
    · rintro (⟨x, y⟩ | ⟨rfl, rfl⟩)
      · exact ⟨x, by omega⟩
      · exact ⟨⟨h1, h2, hh⟩, .inr ⟨rfl, by omega⟩⟩
    · rintro ⟨x, y⟩
      by_cases e : i = k ∧ q = p
      · exact .inr e
      · exact .inl ⟨x, by omega⟩
theorem Counted.miss {ls : List (List Int)} {s : List Int} {k p cnt : Nat} (h : Counted ls s k p cnt) (hh : ¬ HitAt ls s k p) : Counted ls s k (p + 1) cnt := by
  obtain ⟨P, a, b, c⟩ := h.ex
  refine ⟨P, a, b, fun i q => (c i q).trans ⟨fun ⟨x, y⟩ => ⟨x, by omega⟩, fun ⟨x, y⟩ => ⟨x, ?_⟩⟩⟩
  rcases y with y | ⟨rfl, y⟩
  · exact .inl y
  · by_cases e : q = p
    · subst e; exact absurd x.2.2 hh
    · exact .inr ⟨rfl, by omega⟩
theorem Counted.word {ls : List (List Int)} {s : List Int} {k p cnt : Nat} (h : Counted ls s k p cnt) (hp : s.length < p) : Counted ls s (k + 1) 0 cnt := by
  obtain ⟨P, a, b, c⟩ := h.ex
  refine ⟨P, a, b, fun i q => (c i q).trans ⟨fun ⟨x, y⟩ => ⟨x, by omega⟩, fun ⟨x, y⟩ => ⟨x, ?_⟩⟩⟩
  have := x.2.1
  omega
theorem Counted.at {ls : List (List Int)} {s : List Int} {k p cnt : Nat} (h : Counted ls s k 0 cnt) (hp : p ≤ (gL ls k).length) : Counted ls s k p cnt := by
  obtain ⟨P, a, b, c⟩ := h.ex
  refine ⟨P, a, b, fun i q => (c i q).trans ⟨fun ⟨x, y⟩ => ⟨x, by omega⟩, fun ⟨x, y⟩ => ⟨x, ?_⟩⟩⟩
  rcases y with y | ⟨rfl, y⟩
  · exact .inl y
  · have h1 := x.2.2.2.length_le
    rw [List.length_take] at h1
    omega
theorem Counted.all {ls : List (List Int)} {s : List Int} {cnt : Nat} {t : AC} {fall : Nat → Nat} (h : Counted ls s ls.length 0 cnt) (ho : t.Ok ls) (hf : ∀ i, i < t.N → i ≠ 0 → FallAt t fall i) (hg : GoodA ls) : cnt = (hitP t fall s s.length).length := by
  obtain ⟨P, rfl, b, c⟩ := h.ex
  refine nodup_len b (hit_nodup ho hf hg _) (fun x => ?_)
  obtain ⟨i, q⟩ := x
  rw [c, hit_mem ho hf hg]
  constructor
  · exact fun h => h.1
  · intro h
    exact ⟨h, .inl h.2.2.1⟩
end Go.Proofs.Ytdkjkcegchohfaa
