/-
  BURKHARD, KELLER: the tree, in plain Lean: nodes by number, children by distance; where a word is put in; what is within so far.
-/
import Derived.Test.YtdkjkcegchohfaaNearF
namespace Go.Proofs.Ytdkjkcegchohfaa
set_option linter.unusedVariables false

/-- The words, and each node's children by their distance. -/
structure BK where
  ws : List (List Int)
  kid : Nat → Int → Option Nat
def BK.W (t : BK) (i : Nat) : List Int := t.ws.getD i []

/-- Under a node, itself too. -/
inductive Und (t : BK) : Nat → Nat → Prop
  | refl (i : Nat) : Und t i i
  | step {i : Nat} {d : Int} {j x : Nat} : t.kid i d = some j → Und t j x → Und t i x

structure BK.Ok (t : BK) : Prop where
  up : ∀ i d j, t.kid i d = some j → i < j ∧ j < t.ws.length
  far : ∀ i d j x, t.kid i d = some j → Und t j x → d = (dist (t.W i) (t.W x) : Int)
  all : ∀ x, x < t.ws.length → Und t 0 x

theorem Und.trans {t : BK} {i j x : Nat} (h : Und t i j) (k : Und t j x) : Und t i x := by
  induction h with
  | refl => exact k
  | step e _ ih => exact .step e (ih k)
theorem Und.le {t : BK} (ho : t.Ok) {i x : Nat} (h : Und t i x) : i ≤ x := by
  induction h with
  | refl => exact Nat.le_refl _
  | step e _ ih => have := (ho.up _ _ _ e).1; omega
theorem Und.lt {t : BK} (ho : t.Ok) {i x : Nat} (h : Und t i x) (hi : i < t.ws.length) : x < t.ws.length := by
  induction h with
  | refl => exact hi
  | step e _ ih => exact ih (ho.up _ _ _ e).2
theorem und_iff {t : BK} {i x : Nat} : Und t i x ↔ x = i ∨ ∃ d j, t.kid i d = some j ∧ Und t j x := by
  constructor
  · intro h
    cases h with
    | refl => exact Or.inl rfl
    | step e h => exact Or.inr ⟨_, _, e, h⟩
  · rintro (rfl | ⟨d, j, e, h⟩)
    · exact .refl _
    · exact .step e h

/-- Where a word goes from a node. -/
inductive PutW (W : List Int) (t : BK) : Nat → Nat → Prop
  | here {i : Nat} : t.kid i (dist (t.W i) W) = none → PutW W t i i
  | down {i j p : Nat} : t.kid i (dist (t.W i) W) = some j → PutW W t j p → PutW W t i p
def BK.add (t : BK) (p : Nat) (W : List Int) : BK :=
  ⟨t.ws ++ [W], fun x d => if x = p ∧ d = (dist (t.W p) W : Int) then some t.ws.length else t.kid x d⟩

theorem PutW.und {W : List Int} {t : BK} {i p : Nat} (h : PutW W t i p) : Und t i p := by
  induction h with
  | here => exact .refl _
  | down e _ ih => exact .step e ih
theorem PutW.free {W : List Int} {t : BK} {i p : Nat} (h : PutW W t i p) : t.kid p (dist (t.W p) W) = none := by
  induction h with
  | here e => exact e
  | down _ _ ih => exact ih
theorem PutW.way {W : List Int} {t : BK} (ho : t.Ok) {r p : Nat} (h : PutW W t r p) : ∀ {i : Nat} {d : Int} {j : Nat}, Und t r i → t.kid i d = some j → Und t j p → d = (dist (t.W i) W : Int) := by
  induction h with
  | @here r e =>
    intro i d j h1 h2 h3
    have := h1.le ho
    have := h3.le ho
    have := (ho.up _ _ _ h2).1
    omega
  | @down r j' p e h ih =>
    intro i d j h1 h2 h3
    have e1 := ho.far _ _ _ _ e h.und
    rcases und_iff.1 h1 with rfl | ⟨d2, j2, e2, h4⟩
    · rw [ho.far _ _ _ _ h2 h3, ← e1]
    · have e3 := ho.far _ _ _ _ e2 (h4.trans (.step h2 h3))
      rw [← e1] at e3
      subst e3
      rw [e] at e2
      cases e2
      exact ih h4 h2 h3

theorem BK.add_W_old {t : BK} {p : Nat} {W : List Int} {i : Nat} (h : i < t.ws.length) : (t.add p W).W i = t.W i := by
  simp [BK.W, BK.add, List.getD, List.getElem?_append_left h]
theorem BK.add_W_new {t : BK} {p : Nat} {W : List Int} : (t.add p W).W t.ws.length = W := by
  simp [BK.W, BK.add, List.getD]
theorem BK.add_mono {t : BK} {p : Nat} {W : List Int} (hf : t.kid p (dist (t.W p) W) = none) {i : Nat} {d : Int} {j : Nat} (h : t.kid i d = some j) : (t.add p W).kid i d = some j := by
  simp only [BK.add]
  rw [if_neg]
  · exact h
  · rintro ⟨rfl, rfl⟩
    rw [hf] at h
    cases h
theorem Und.add_mono {t : BK} {p : Nat} {W : List Int} (hf : t.kid p (dist (t.W p) W) = none) {i x : Nat} (h : Und t i x) : Und (t.add p W) i x := by
  induction h with
  | refl => exact .refl _
  | step e _ ih => exact .step (BK.add_mono hf e) ih
theorem BK.add_kid {t : BK} {p : Nat} {W : List Int} {i : Nat} {d : Int} {j : Nat} (h : (t.add p W).kid i d = some j) : (i = p ∧ d = (dist (t.W p) W : Int) ∧ j = t.ws.length) ∨ t.kid i d = some j := by
  simp only [BK.add] at h
  split at h
  · rename_i hc
    cases h
    exact Or.inl ⟨hc.1, hc.2, rfl⟩
  · exact Or.inr h
theorem und_add {t : BK} (ho : t.Ok) {p : Nat} {W : List Int} (hp : p < t.ws.length) {i x : Nat} (h : Und (t.add p W) i x) : (i = t.ws.length ∧ x = t.ws.length) ∨ (i ≠ t.ws.length ∧ ((x ≠ t.ws.length ∧ Und t i x) ∨ (x = t.ws.length ∧ Und t i p))) ∨ (t.ws.length < i ∧ x = i) := by
  induction h with
  | refl i =>
    rcases Nat.lt_trichotomy i t.ws.length with h | h | h
    · exact Or.inr (Or.inl ⟨by omega, Or.inl ⟨by omega, .refl _⟩⟩)
    · exact Or.inl ⟨h, h⟩
    · exact Or.inr (Or.inr ⟨h, rfl⟩)
  | @step i d j x e _ ih =>
    rcases BK.add_kid e with ⟨rfl, _, rfl⟩ | e'
    · rcases ih with ⟨_, h⟩ | ⟨h, _⟩ | ⟨h, _⟩
      · exact Or.inr (Or.inl ⟨by omega, Or.inr ⟨h, .refl _⟩⟩)
      · exact absurd rfl h
      · omega
    · have hu := ho.up _ _ _ e'
      rcases ih with ⟨h, _⟩ | ⟨_, ⟨h1, h2⟩ | ⟨h1, h2⟩⟩ | ⟨h, _⟩
      · omega
      · exact Or.inr (Or.inl ⟨by omega, Or.inl ⟨h1, .step e' h2⟩⟩)
      · exact Or.inr (Or.inl ⟨by omega, Or.inr ⟨h1, .step e' h2⟩⟩)
      · omega

theorem BK.Ok.add {t : BK} (ho : t.Ok) {p : Nat} {W : List Int} (h0 : 0 < t.ws.length) (hp : PutW W t 0 p) : (t.add p W).Ok := by
  have hpl : p < t.ws.length := hp.und.lt ho h0
  have hl : (t.add p W).ws.length = t.ws.length + 1 := by simp [BK.add]
  refine ⟨fun i d j h => ?_, fun i d j x h hu => ?_, fun x hx => ?_⟩
  · rcases BK.add_kid h with ⟨rfl, _, rfl⟩ | h
    · omega
    · have := ho.up _ _ _ h; omega
  · rcases BK.add_kid h with ⟨rfl, rfl, rfl⟩ | h
    · rcases und_add ho hpl hu with ⟨_, rfl⟩ | ⟨h, _⟩ | ⟨h, _⟩
      · rw [BK.add_W_old hpl, BK.add_W_new]
      · exact absurd rfl h
      · omega
    · have hup := ho.up _ _ _ h
      rw [BK.add_W_old (show i < t.ws.length by omega)]
      rcases und_add ho hpl hu with ⟨h1, _⟩ | ⟨_, ⟨h1, h2⟩ | ⟨rfl, h2⟩⟩ | ⟨h1, _⟩
      · omega
      · rw [BK.add_W_old (h2.lt ho hup.2)]
        exact ho.far _ _ _ _ h h2
      · rw [BK.add_W_new]
        exact hp.way ho (ho.all i (by omega)) h h2
      · omega
  · by_cases hx' : x < t.ws.length
    · exact (ho.all x hx').add_mono hp.free
    · obtain rfl : x = t.ws.length := by omega
      refine (hp.und.add_mono hp.free).trans (.step (d := dist (t.W p) W) (j := t.ws.length) ?_ (.refl _))
      simp [BK.add]

/-- One word. -/
def BK.one (W : List Int) : BK := ⟨[W], fun _ _ => none⟩
theorem BK.one_ok (W : List Int) : (BK.one W).Ok :=
  ⟨fun i d j h => by simp [BK.one] at h, fun i d j x h => by simp [BK.one] at h, fun x hx => by
    have : x = 0 := by simp [BK.one] at hx; exact hx
    subst this; exact .refl _⟩

/-- What is near enough of some nodes: each once. -/
def HitsB (t : BK) (q : List Int) (most : Nat) (S : Nat → Prop) (L : List (Nat × Nat)) : Prop :=
  (L.map Prod.fst).Nodup ∧ ∀ x d, (x, d) ∈ L ↔ S x ∧ d = dist (t.W x) q ∧ d ≤ most
theorem HitsB.none {t : BK} {q : List Int} {most : Nat} {S : Nat → Prop} (h : ∀ x, S x → most < dist (t.W x) q) : HitsB t q most S [] :=
  ⟨by simp, fun x d => ⟨fun h => by simp at h, fun ⟨h1, h2, h3⟩ => by have := h x h1; omega⟩⟩
theorem HitsB.one {t : BK} {q : List Int} {most i : Nat} (h : dist (t.W i) q ≤ most) : HitsB t q most (fun x => x = i) [(i, dist (t.W i) q)] :=
  ⟨by simp, fun x d => by
    simp only [List.mem_singleton, Prod.mk.injEq]
    constructor
    · rintro ⟨rfl, rfl⟩; exact ⟨rfl, rfl, h⟩
    · rintro ⟨rfl, rfl, _⟩; exact ⟨rfl, rfl⟩⟩
theorem HitsB.app {t : BK} {q : List Int} {most : Nat} {S S1 S2 : Nat → Prop} {L1 L2 : List (Nat × Nat)} (h1 : HitsB t q most S1 L1) (h2 : HitsB t q most S2 L2)
    (hd : ∀ x, S1 x → S2 x → False) (hs : ∀ x, S x ↔ S1 x ∨ S2 x) : HitsB t q most S (L1 ++ L2) := by
  refine ⟨?_, fun x d => ?_⟩
  · rw [List.map_append, List.nodup_append]
    refine ⟨h1.1, h2.1, fun x hx y hy e => ?_⟩
    subst e
    obtain ⟨⟨_, d⟩, hm, rfl⟩ := List.mem_map.1 hx
    obtain ⟨⟨x', d'⟩, hm', e⟩ := List.mem_map.1 hy
    simp only at e
    subst e
    exact hd _ ((h1.2 _ _).1 hm).1 ((h2.2 _ _).1 hm').1
  · rw [List.mem_append, h1.2, h2.2, hs]
    constructor
    · rintro (⟨a, b, c⟩ | ⟨a, b, c⟩)
      · exact ⟨Or.inl a, b, c⟩
      · exact ⟨Or.inr a, b, c⟩
    · rintro ⟨a | a, b, c⟩
      · exact Or.inl ⟨a, b, c⟩
      · exact Or.inr ⟨a, b, c⟩
theorem HitsB.congr {t : BK} {q : List Int} {most : Nat} {S S' : Nat → Prop} {L : List (Nat × Nat)} (h : HitsB t q most S L) (hs : ∀ x, S' x ↔ S x) : HitsB t q most S' L :=
  ⟨h.1, fun x d => by rw [h.2, hs]⟩

/-- What has been seen at a node when some of its children are still to come. -/
def SeenB (t : BK) (i : Nat) (left : Int → Bool) (x : Nat) : Prop := x = i ∨ ∃ d j, t.kid i d = some j ∧ left d = false ∧ Und t j x
theorem seen_start {t : BK} {i : Nat} {left : Int → Bool} (h : ∀ d j, t.kid i d = some j → left d = true) (x : Nat) : SeenB t i left x ↔ x = i := by
  constructor
  · rintro (h' | ⟨d, j, h1, h2, _⟩)
    · exact h'
    · rw [h d j h1] at h2; cases h2
  · exact Or.inl
theorem seen_end {t : BK} {i : Nat} {left : Int → Bool} (h : ∀ d j, t.kid i d = some j → left d = false) (x : Nat) : SeenB t i left x ↔ Und t i x := by
  rw [und_iff]
  constructor
  · rintro (h' | ⟨d, j, h1, _, h2⟩)
    · exact Or.inl h'
    · exact Or.inr ⟨d, j, h1, h2⟩
  · rintro (h' | ⟨d, j, h1, h2⟩)
    · exact Or.inl h'
    · exact Or.inr ⟨d, j, h1, h d j h1, h2⟩
theorem seen_step {t : BK} {i : Nat} {left left' : Int → Bool} {k : Int} {j : Nat} (hk : t.kid i k = some j) (hl : left k = true) (hl' : ∀ d, left' d = (left d && !decide (d = k))) (x : Nat) :
    SeenB t i left' x ↔ SeenB t i left x ∨ Und t j x := by
  constructor
  · rintro (h | ⟨d, j', h1, h2, h3⟩)
    · exact Or.inl (Or.inl h)
    · rw [hl'] at h2
      by_cases e : d = k
      · subst e
        rw [hk] at h1
        cases h1
        exact Or.inr h3
      · simp [e] at h2
        exact Or.inl (Or.inr ⟨d, j', h1, h2, h3⟩)
  · rintro ((h | ⟨d, j', h1, h2, h3⟩) | h)
    · exact Or.inl h
    · exact Or.inr ⟨d, j', h1, by rw [hl', h2]; rfl, h3⟩
    · exact Or.inr ⟨k, j, hk, by rw [hl']; simp, h⟩
theorem seen_apart {t : BK} (ho : t.Ok) {i : Nat} {left : Int → Bool} {k : Int} {j : Nat} (hk : t.kid i k = some j) (hl : left k = true) (x : Nat) (h1 : SeenB t i left x) (h2 : Und t j x) : False := by
  rcases h1 with rfl | ⟨d, j', h3, h4, h5⟩
  · have := h2.le ho; have := (ho.up _ _ _ hk).1; omega
  · have e : d = k := by rw [ho.far _ _ _ _ h3 h5, ho.far _ _ _ _ hk h2]
    subst e
    rw [h4] at hl
    cases hl
/-- A child that lies too near or too far has none. -/
theorem kid_far {t : BK} (ho : t.Ok) {q : List Int} {most i : Nat} {k : Int} {j : Nat} (hk : t.kid i k = some j) (h : k < (dist (t.W i) q : Int) - most ∨ (dist (t.W i) q : Int) + most < k) : HitsB t q most (Und t j) [] := by
  refine HitsB.none fun x hx => ?_
  have e := ho.far _ _ _ _ hk hx
  have c1 : dist (t.W x) q = dist q (t.W x) := lev_comm _ _
  have c2 : dist (t.W x) (t.W i) = dist (t.W i) (t.W x) := lev_comm _ _
  have h1 : dist (t.W i) q ≤ dist (t.W i) (t.W x) + dist (t.W x) q := lev_tri _ _ _
  have h2 : dist (t.W i) (t.W x) ≤ dist (t.W i) q + dist q (t.W x) := lev_tri _ _ _
  omega
theorem dist_le {a b : List Int} {n : Nat} (h1 : a.length ≤ n) (h2 : b.length ≤ n) : dist a b ≤ n := by
  have := lev_high a.reverse b.reverse
  simp only [List.length_reverse] at this
  unfold dist
  omega
end Go.Proofs.Ytdkjkcegchohfaa
