/-
  Breadth first: what the queue holds, which falls are right.
-/
import Derived.Test.YtdkjkcegchohfaaAbQ
namespace Go.Proofs.Ytdkjkcegchohfaa
set_option linter.unusedVariables false

def dep (t : AC) (i : Nat) : Nat := (t.str i).length
section
variable {t : AC} {ws : List (List Int)} {fall : Nat → Nat}
theorem nx_dep (h : t.Ok ws) {p j : Nat} {c : Int} (hn : t.nx p c = some j) : dep t j = dep t p + 1 := by
  unfold dep
  rw [((h.nxt p c j).1 hn).2.2]; simp
theorem nx_eq (h : t.Ok ws) {p q j : Nat} {c d : Int} (hp : t.nx p c = some j) (hq : t.nx q d = some j) : p = q ∧ c = d := by
  obtain ⟨a1, _, a3⟩ := (h.nxt p c j).1 hp
  obtain ⟨b1, _, b3⟩ := (h.nxt q d j).1 hq
  rw [a3] at b3
  obtain ⟨h1, h2⟩ := List.append_inj' b3 rfl
  simp at h2
  exact ⟨h.inj p q a1 b1 h1, h2⟩
/-- D done, Q to be done. -/
structure Bfs (t : AC) (fall : Nat → Nat) (D Q : List Nat) : Prop where
  nodup : (D ++ Q).Nodup
  lt : ∀ i, i ∈ D ++ Q → i < t.N
  root : 0 ∈ D ++ Q
  par : ∀ j, j ∈ D ++ Q → j ≠ 0 → ∃ p c, p ∈ D ∧ t.nx p c = some j
  kids : ∀ p c j, p ∈ D → t.nx p c = some j → j ∈ D ++ Q
  falls : ∀ j, j ∈ D ++ Q → j ≠ 0 → FallAt t fall j
  sorted : Q.Pairwise (fun a b => dep t a ≤ dep t b)
  near : ∀ a b, a ∈ Q → b ∈ Q → dep t b ≤ dep t a + 1
  all : ∀ a, a ∈ Q → (∀ b, b ∈ Q → dep t a ≤ dep t b) → ∀ j, j < t.N → dep t j ≤ dep t a → j ∈ D ++ Q
theorem Bfs.start (h : t.Ok ws) : Bfs t fall [] [0] := by
  refine ⟨by simp, fun i hi => ?_, by simp, fun j hj hj0 => ?_, fun p c j hp => by simp at hp, fun j hj hj0 => ?_, by simp, fun a b ha hb => ?_, fun a ha _ j hj hd => ?_⟩
  · simp at hi; rw [hi]; exact h.pos
  · simp at hj; exact absurd hj hj0
  · simp at hj; exact absurd hj hj0
  · simp at ha hb; rw [ha, hb]; omega
  · simp at ha
    rw [ha] at hd
    unfold dep at hd
    rw [h.root] at hd
    have h1 : t.str j = [] := List.eq_nil_of_length_eq_zero (by simpa using hd)
    simp
    exact h.inj j 0 hj h.pos (by rw [h1, h.root])
theorem Bfs.done (h : t.Ok ws) {D : List Nat} (hb : Bfs t fall D []) : ∀ i, i < t.N → i ≠ 0 → FallAt t fall i := by
  have key : ∀ n i, i < n → i < t.N → i ∈ D := by
    intro n
    induction n with
    | zero => intro i hi; omega
    | succ n ih =>
      intro i hi hN
      by_cases h0 : i = 0
      · have := hb.root
        simp at this
        rw [h0]; exact this
      · obtain ⟨p, c, hp⟩ := h.par i hN h0
        have := hb.kids p c i (ih p (by have := h.up p c i hp; omega) ((h.nxt p c i).1 hp).1) hp
        simpa using this
  intro i hi h0
  exact hb.falls i (by simpa using key (i + 1) i (by omega) hi) h0
theorem Bfs.le {D Q : List Nat} (hb : Bfs t fall D Q) : (D ++ Q).Nodup ∧ ∀ x ∈ D ++ Q, x < t.N := ⟨hb.nodup, hb.lt⟩

/-- Its kids are being put into the queue: ks so far. -/
structure Bfi (t : AC) (fall : Nat → Nat) (D : List Nat) (h : Nat) (rest ks : List Nat) (left : Int → Bool) : Prop where
  bfs : Bfs t fall D (h :: rest)
  zero : ∀ j, j < t.N → j ∉ D ++ (h :: rest) → j ∉ ks → fall j = 0
  mem : ∀ j, j ∈ ks ↔ ∃ c, t.nx h c = some j ∧ left c = false
  nodup : ks.Nodup
  kfalls : ∀ j, j ∈ ks → FallAt t fall j
theorem Bfi.start {D rest : List Nat} {h : Nat} (hb : Bfs t fall D (h :: rest)) (hz : ∀ j, j < t.N → j ∉ D ++ (h :: rest) → fall j = 0) {left : Int → Bool} (hl : ∀ c j, t.nx h c = some j → left c = true) : Bfi t fall D h rest [] left := by
  refine ⟨hb, fun j hj hn _ => hz j hj hn, fun j => ⟨fun hj => by simp at hj, fun ⟨c, h1, h2⟩ => by rw [hl c j h1] at h2; cases h2⟩, by simp, fun j hj => by simp at hj⟩
theorem Bfi.new (ho : t.Ok ws) {D rest ks : List Nat} {h j : Nat} {c : Int} {left : Int → Bool} (hb : Bfi t fall D h rest ks left) (hn : t.nx h c = some j) (hl : left c = true) : j ∉ D ++ (h :: rest) ∧ j ∉ ks := by
  have hj0 : j ≠ 0 := by have := ho.up h c j hn; omega
  constructor
  · intro hm
    obtain ⟨p, d, hp, hpn⟩ := hb.bfs.par j hm hj0
    obtain ⟨e, _⟩ := nx_eq ho hpn hn
    subst e
    have := List.nodup_append.1 hb.bfs.nodup
    exact this.2.2 p hp p (by simp) rfl
  · intro hm
    obtain ⟨d, h1, h2⟩ := (hb.mem j).1 hm
    obtain ⟨_, e⟩ := nx_eq ho h1 hn
    subst e
    rw [hl] at h2; cases h2
theorem Bfi.head {D rest ks : List Nat} {h : Nat} {left : Int → Bool} (hb : Bfi t fall D h rest ks left) : h < t.N := hb.bfs.lt h (by simp)
theorem Bfi.fallsTo (ho : t.Ok ws) {D rest ks : List Nat} {h : Nat} {left : Int → Bool} (hb : Bfi t fall D h rest ks left) (h0 : h ≠ 0) : fall h < t.N ∧ FallsTo t fall (t.str (fall h)).length := by
  have hf := hb.bfs.falls h (by simp) h0
  refine ⟨hf.1, fun i hi hi0 hd => ?_⟩
  have hl := fall_less ho hb.head h0 hf
  refine hb.bfs.falls i (hb.bfs.all h (by simp) (fun b hb' => ?_) i hi (by unfold dep; omega)) hi0
  rcases List.mem_cons.1 hb' with e | e
  · rw [e]; exact Nat.le_refl _
  · exact (List.pairwise_cons.1 hb.bfs.sorted).1 b e
theorem FallAt.up {fall' : Nat → Nat} {i : Nat} (h : FallAt t fall i) (e : fall' i = fall i) : FallAt t fall' i := by
  unfold FallAt at *; rw [e]; exact h
theorem Bfs.turn {fall' : Nat → Nat} {D Q : List Nat} (h : Bfs t fall D Q) (he : ∀ i, i ∈ D ++ Q → fall' i = fall i) : Bfs t fall' D Q :=
  ⟨h.nodup, h.lt, h.root, h.par, h.kids, fun j hj h0 => (h.falls j hj h0).up (he j hj), h.sorted, h.near, h.all⟩
theorem Bfi.kid (ho : t.Ok ws) {D rest ks : List Nat} {h j : Nat} {c : Int} {left left' : Int → Bool} {fall' : Nat → Nat} (hb : Bfi t fall D h rest ks left) (hn : t.nx h c = some j) (hl : left c = true)
    (hl' : ∀ d, left' d = (left d && !decide (d = c))) (hf : ∀ i, i ≠ j → fall' i = fall i) (hj : FallAt t fall' j) : Bfi t fall' D h rest (ks ++ [j]) left' := by
  obtain ⟨n1, n2⟩ := hb.new ho hn hl
  refine ⟨hb.bfs.turn (fun i hi => hf i (fun e => n1 (e ▸ hi))), fun i hi h1 h2 => ?_, fun i => ?_, ?_, fun i hi => ?_⟩
  · have hne : i ≠ j := fun e => h2 (by simp [e])
    rw [hf i hne]
    exact hb.zero i hi h1 (fun hm => h2 (List.mem_append_left _ hm))
  · rw [List.mem_append, hb.mem i, List.mem_singleton]
    constructor
    · rintro (⟨d, h1, h2⟩ | rfl)
      · exact ⟨d, h1, by rw [hl', h2]; rfl⟩
      · exact ⟨c, hn, by rw [hl']; simp⟩
    · rintro ⟨d, h1, h2⟩
      rw [hl'] at h2
      by_cases e : d = c
      · subst e
        rw [hn] at h1
        injection h1 with h1
        exact .inr h1.symm
      · exact .inl ⟨d, h1, by simpa [e] using h2⟩
  · rw [List.nodup_append]
    exact ⟨hb.nodup, by simp, fun a ha b hb' e => n2 (by rw [← List.mem_singleton.1 hb', ← e]; exact ha)⟩
  · rcases List.mem_append.1 hi with hi | hi
    · exact (hb.kfalls i hi).up (hf i (fun e => n2 (e ▸ hi)))
    · rw [List.mem_singleton.1 hi]; exact hj
theorem Bfi.kid_root (ho : t.Ok ws) {D rest ks : List Nat} {j : Nat} {c : Int} {left left' : Int → Bool} (hb : Bfi t fall D 0 rest ks left) (hn : t.nx 0 c = some j) (hl : left c = true)
    (hl' : ∀ d, left' d = (left d && !decide (d = c))) : Bfi t fall D 0 rest (ks ++ [j]) left' := by
  obtain ⟨n1, n2⟩ := hb.new ho hn hl
  refine hb.kid ho hn hl hl' (fun _ _ => rfl) ?_
  have hz := hb.zero j ((ho.nxt 0 c j).1 hn).2.1 n1 n2
  unfold FallAt
  rw [hz]
  exact ⟨ho.pos, fall_root ho hn⟩
theorem Bfi.kid_step (ho : t.Ok ws) {D rest ks : List Nat} {h j v : Nat} {c : Int} {left left' : Int → Bool} (hb : Bfi t fall D h rest ks left) (h0 : h ≠ 0) (hn : t.nx h c = some j) (hl : left c = true)
    (hl' : ∀ d, left' d = (left d && !decide (d = c))) (hv : StepTo t (fall h) c v) : Bfi t (upN fall j v) D h rest (ks ++ [j]) left' := by
  refine hb.kid ho hn hl hl' (fun i hi => upN_ne hi) ?_
  unfold FallAt
  rw [upN_at]
  exact fall_kid ho h0 hn (hb.bfs.falls h (by simp) h0) hv
theorem Bfi.fin (ho : t.Ok ws) {D rest ks : List Nat} {h : Nat} {left : Int → Bool} (hb : Bfi t fall D h rest ks left) (hl : ∀ c, left c = false) :
    Bfs t fall (h :: D) (rest ++ ks) ∧ ∀ j, j < t.N → j ∉ (h :: D) ++ (rest ++ ks) → fall j = 0 := by
  have hk : ∀ j, j ∈ ks ↔ ∃ c, t.nx h c = some j := fun j => (hb.mem j).trans ⟨fun ⟨c, h1, _⟩ => ⟨c, h1⟩, fun ⟨c, h1⟩ => ⟨c, h1, hl c⟩⟩
  have hmem : ∀ j, j ∈ (h :: D) ++ (rest ++ ks) ↔ j ∈ D ++ (h :: rest) ∨ j ∈ ks := fun j => by
    simp only [List.mem_append, List.mem_cons]
    constructor
    · rintro ((a | a) | (a | a))
      · exact .inl (.inr (.inl a))
      · exact .inl (.inl a)
      · exact .inl (.inr (.inr a))
      · exact .inr a
    · rintro ((a | a | a) | a)
      · exact .inl (.inr a)
      · exact .inl (.inl a)
      · exact .inr (.inl a)
      · exact .inr (.inr a)
  have hd : ∀ j, j ∈ ks → dep t j = dep t h + 1 := fun j hj => by
    obtain ⟨c, h1⟩ := (hk j).1 hj
    exact nx_dep ho h1
  have hs := List.pairwise_cons.1 hb.bfs.sorted
  have hr : ∀ j, j ∈ rest → dep t h ≤ dep t j ∧ dep t j ≤ dep t h + 1 := fun j hj => ⟨hs.1 j hj, hb.bfs.near h j (by simp) (by simp [hj])⟩
  have hn := List.nodup_append.1 hb.bfs.nodup
  have hnc := List.nodup_cons.1 hn.2.1
  have hkn : ∀ j, j ∈ ks → j ∉ D ++ (h :: rest) := fun j hj hm => by
    obtain ⟨c, h1⟩ := (hk j).1 hj
    have hj0 : j ≠ 0 := by have := ho.up h c j h1; omega
    obtain ⟨p, d, hp, hpn⟩ := hb.bfs.par j hm hj0
    obtain ⟨e, _⟩ := nx_eq ho hpn h1
    subst e
    exact hn.2.2 p hp p (by simp) rfl
  refine ⟨⟨?_, fun i hi => ?_, (hmem 0).2 (.inl hb.bfs.root), fun j hj hj0 => ?_, fun p c j hp h1 => ?_, fun j hj hj0 => ?_, ?_, fun a b ha hb' => ?_, fun a ha hmin j hj hdj => ?_⟩, fun j hj hnm => ?_⟩
  · rw [List.nodup_append]
    refine ⟨List.nodup_cons.2 ⟨fun hh => hn.2.2 h hh h (by simp) rfl, hn.1⟩, List.nodup_append.2 ⟨hnc.2, hb.nodup, fun a ha b hb' e => hkn b hb' (by rw [← e]; simp [ha])⟩, fun a ha b hb' e => ?_⟩
    subst e
    rcases List.mem_cons.1 ha with e | ha
    · subst e
      rcases List.mem_append.1 hb' with hb' | hb'
      · exact hnc.1 hb'
      · exact hkn a hb' (by simp)
    · rcases List.mem_append.1 hb' with hb' | hb'
      · exact hn.2.2 a ha a (by simp [hb']) rfl
      · exact hkn a hb' (by simp [ha])
  · rcases (hmem i).1 hi with hi | hi
    · exact hb.bfs.lt i hi
    · obtain ⟨c, h1⟩ := (hk i).1 hi
      exact ((ho.nxt h c i).1 h1).2.1
  · rcases (hmem j).1 hj with hj | hj
    · obtain ⟨p, c, h1, h2⟩ := hb.bfs.par j hj hj0
      exact ⟨p, c, by simp [h1], h2⟩
    · obtain ⟨c, h1⟩ := (hk j).1 hj
      exact ⟨h, c, by simp, h1⟩
  · rcases List.mem_cons.1 hp with e | hp
    · subst e
      exact (hmem j).2 (.inr ((hk j).2 ⟨c, h1⟩))
    · exact (hmem j).2 (.inl (hb.bfs.kids p c j hp h1))
  · rcases (hmem j).1 hj with hj | hj
    · exact hb.bfs.falls j hj hj0
    · exact hb.kfalls j hj
  · rw [List.pairwise_append]
    refine ⟨hs.2, ?_, fun a ha b hb' => ?_⟩
    · refine List.Pairwise.imp_of_mem (R := fun _ _ => True) (fun {a b} ha hb' _ => ?_) (List.pairwise_of_forall (fun _ _ => trivial))
      rw [hd a ha, hd b hb']
      exact Nat.le_refl _
    · rw [hd b hb']; exact (hr a ha).2
  · have h1 : ∀ j, j ∈ rest ++ ks → dep t h ≤ dep t j ∧ dep t j ≤ dep t h + 1 := fun j hj => by
      rcases List.mem_append.1 hj with hj | hj
      · exact hr j hj
      · rw [hd j hj]; omega
    have := h1 a ha
    have := h1 b hb'
    omega
  · have h1 : dep t h ≤ dep t a ∧ dep t a ≤ dep t h + 1 := by
      rcases List.mem_append.1 ha with ha | ha
      · exact hr a ha
      · rw [hd a ha]; omega
    by_cases hle : dep t j ≤ dep t h
    · refine (hmem j).2 (.inl (hb.bfs.all h (by simp) (fun b hb' => ?_) j hj hle))
      rcases List.mem_cons.1 hb' with e | e
      · rw [e]; exact Nat.le_refl _
      · exact (hr b e).1
    · have hj0 : j ≠ 0 := fun e => by
        rw [e] at hle
        unfold dep at hle
        rw [ho.root] at hle
        simp at hle
      obtain ⟨p, c, hp⟩ := ho.par j hj hj0
      have h2 := nx_dep ho hp
      have h3 : p ∈ D ++ (h :: rest) := by
        refine hb.bfs.all h (by simp) (fun b hb' => ?_) p ((ho.nxt p c j).1 hp).1 (by omega)
        rcases List.mem_cons.1 hb' with e | e
        · rw [e]; exact Nat.le_refl _
        · exact (hr b e).1
      rcases List.mem_append.1 h3 with h3 | h3
      · exact (hmem j).2 (.inl (hb.bfs.kids p c j h3 hp))
      · rcases List.mem_cons.1 h3 with e | h3
        · subst e
          exact (hmem j).2 (.inr ((hk j).2 ⟨c, hp⟩))
        · have h4 := hmin p (by simp [h3])
          omega
  · have hh : ¬ (j ∈ D ++ (h :: rest) ∨ j ∈ ks) := fun hm => hnm ((hmem j).2 hm)
    exact hb.zero j hj (fun hm => hh (.inl hm)) (fun hm => hh (.inr hm))
end
end Go.Proofs.Ytdkjkcegchohfaa
