/-
  AHO, CORASICK: the machine, in plain Lean: paths by number; where it falls back to; what a step does.
-/
import Derived.Test.YtdkjkcegchohfaaHisM
namespace Go.Proofs.Ytdkjkcegchohfaa
set_option linter.unusedVariables false

/-- The longest end that is a path. -/
noncomputable def lsuf (P : List Int → Prop) : List Int → List Int
  | [] => []
  | x :: u => open Classical in if P (x :: u) then x :: u else lsuf P u
section
variable {P : List Int → Prop}
theorem lsuf_suffix : ∀ u : List Int, lsuf P u <:+ u
  | [] => List.suffix_refl _
  | x :: u => by
    unfold lsuf
    split
    · exact List.suffix_refl _
    · exact (lsuf_suffix u).trans (List.suffix_cons x u)
theorem lsuf_P (h0 : P []) : ∀ u : List Int, P (lsuf P u)
  | [] => h0
  | x :: u => by
    unfold lsuf
    split
    · assumption
    · exact lsuf_P h0 u
theorem lsuf_max : ∀ {u v : List Int}, v <:+ u → P v → v <:+ lsuf P u
  | [], v, h, _ => h
  | x :: u, v, h, hv => by
    unfold lsuf
    split
    · exact h
    · rename_i hx
      rcases List.suffix_cons_iff.1 h with rfl | h
      · exact absurd hv hx
      · exact lsuf_max h hv
theorem suffix_eq {a b : List Int} (h1 : a <:+ b) (h2 : b <:+ a) : a = b := h1.eq_of_length (Nat.le_antisymm h1.length_le h2.length_le)
theorem lsuf_self {u : List Int} (h : P u) : lsuf P u = u := suffix_eq (lsuf_suffix u) (lsuf_max (List.suffix_refl u) h)
theorem suffix_snoc {v u : List Int} {c : Int} (h : v <:+ u ++ [c]) : v = [] ∨ ∃ w, v = w ++ [c] ∧ w <:+ u := by
  rcases List.eq_nil_or_concat v with rfl | ⟨w, d, rfl⟩
  · exact .inl rfl
  · right
    obtain ⟨r, hr⟩ := h
    rw [List.concat_eq_append, ← List.append_assoc] at hr
    have h1 := List.append_inj' hr rfl
    obtain ⟨h2, h3⟩ := h1
    simp at h3
    subst h3
    exact ⟨w, by simp, r, h2⟩
theorem snoc_suffix {w u : List Int} (c : Int) (h : w <:+ u) : w ++ [c] <:+ u ++ [c] := by
  obtain ⟨r, rfl⟩ := h
  exact ⟨r, by simp⟩
/-- One character more: it is enough to know the longest end. -/
theorem lsuf_snoc (h0 : P []) (hp : ∀ v c, P (v ++ [c]) → P v) (u : List Int) (c : Int) : lsuf P (u ++ [c]) = lsuf P (lsuf P u ++ [c]) := by
  refine suffix_eq ?_ ?_
  · refine lsuf_max ?_ (lsuf_P h0 _)
    rcases suffix_snoc (lsuf_suffix (P := P) (u ++ [c])) with h | ⟨w, h, hw⟩
    · rw [h]; exact List.nil_suffix
    · rw [h]
      refine snoc_suffix c (lsuf_max hw (hp w c ?_))
      rw [← h]; exact lsuf_P h0 _
  · exact lsuf_max ((lsuf_suffix _).trans (snoc_suffix c (lsuf_suffix u))) (lsuf_P h0 _)
theorem lsuf_miss (h0 : P []) (hp : ∀ v c, P (v ++ [c]) → P v) {u : List Int} {c : Int} (hu : u ≠ []) (h : ¬ P (u ++ [c])) : lsuf P (u ++ [c]) = lsuf P (lsuf P u.tail ++ [c]) := by
  cases u with
  | nil => exact absurd rfl hu
  | cons x u =>
    rw [← lsuf_snoc h0 hp, List.tail_cons]
    show lsuf P (x :: (u ++ [c])) = _
    conv => lhs; unfold lsuf
    exact if_neg h
end

/-- Paths by number, what is behind each; the words that end there. -/
structure AC where
  N : Nat
  str : Nat → List Int
  nx : Nat → Int → Option Nat
  ends : Nat → List Nat
def AC.isP (t : AC) (u : List Int) : Prop := ∃ j, j < t.N ∧ t.str j = u
/-- The words ws are in. -/
structure AC.Ok (t : AC) (ws : List (List Int)) : Prop where
  pos : 0 < t.N
  root : t.str 0 = []
  inj : ∀ i j, i < t.N → j < t.N → t.str i = t.str j → i = j
  nxt : ∀ i c j, t.nx i c = some j ↔ i < t.N ∧ j < t.N ∧ t.str j = t.str i ++ [c]
  par : ∀ j, j < t.N → j ≠ 0 → ∃ i c, t.nx i c = some j
  up : ∀ i c j, t.nx i c = some j → i < j
  ends : ∀ i, i < t.N → (t.ends i).Pairwise (· < ·) ∧ ∀ k, k ∈ t.ends i ↔ k < ws.length ∧ gL ws k = t.str i
  all : ∀ k, k < ws.length → t.isP (gL ws k)
theorem AC.Ok.nil {t : AC} {ws : List (List Int)} (h : t.Ok ws) : t.isP [] := ⟨0, h.pos, h.root⟩
theorem AC.Ok.pre {t : AC} {ws : List (List Int)} (h : t.Ok ws) (v : List Int) (c : Int) (hp : t.isP (v ++ [c])) : t.isP v := by
  obtain ⟨j, hj, e⟩ := hp
  have hj0 : j ≠ 0 := fun e0 => by rw [e0, h.root] at e; simp at e
  obtain ⟨i, d, hn⟩ := h.par j hj hj0
  obtain ⟨h1, _, h2⟩ := (h.nxt i d j).1 hn
  rw [e] at h2
  exact ⟨i, h1, (List.append_inj_left' h2 rfl).symm⟩
theorem AC.Ok.kid {t : AC} {ws : List (List Int)} (h : t.Ok ws) {i : Nat} {c : Int} (hi : i < t.N) : (t.nx i c).isSome = true ↔ t.isP (t.str i ++ [c]) := by
  constructor
  · intro hs
    obtain ⟨j, hj⟩ := Option.isSome_iff_exists.1 hs
    obtain ⟨_, h1, h2⟩ := (h.nxt i c j).1 hj
    exact ⟨j, h1, h2⟩
  · rintro ⟨j, h1, h2⟩
    rw [(h.nxt i c j).2 ⟨hi, h1, h2⟩]; rfl

/-- The empty machine; a node more. -/
def AC.one : AC := ⟨1, fun _ => [], fun _ _ => none, fun _ => []⟩
theorem AC.one_ok : AC.one.Ok [] :=
  ⟨by decide, rfl, fun i j hi hj _ => by simp [AC.one] at hi hj; omega, fun i c j => by simp [AC.one], fun j hj hj0 => by simp [AC.one] at hj; omega, fun i c j h => by simp [AC.one] at h, fun i hi => ⟨by simp [AC.one], fun k => by simp [AC.one]⟩, fun k hk => by simp at hk⟩
def AC.add (t : AC) (p : Nat) (c : Int) : AC :=
  ⟨t.N + 1, fun i => if i = t.N then t.str p ++ [c] else t.str i, fun x d => if x = p ∧ d = c then some t.N else t.nx x d, fun i => if i = t.N then [] else t.ends i⟩
theorem AC.Ok.add {t : AC} {ws : List (List Int)} (h : t.Ok ws) {p : Nat} {c : Int} (hp : p < t.N) (hn : t.nx p c = none) : (t.add p c).Ok ws := by
  have hnp : ¬ t.isP (t.str p ++ [c]) := fun hh => by
    have := (h.kid hp).2 hh
    rw [hn] at this; cases this
  have hold : ∀ i, i < t.N → (t.add p c).str i = t.str i := fun i hi => by simp [AC.add]; omega
  have hnew : (t.add p c).str t.N = t.str p ++ [c] := by simp [AC.add]
  have hN : (t.add p c).N = t.N + 1 := rfl
  have hadd : ∀ x d, (t.add p c).nx x d = if x = p ∧ d = c then some t.N else t.nx x d := fun x d => rfl
  refine ⟨by omega, by rw [hold 0 h.pos]; exact h.root, fun i j hi hj e => ?_, fun i d j => ?_, fun j hj hj0 => ?_, fun i d j hh => ?_, fun i hi => ?_, fun k hk => ?_⟩
  · by_cases e1 : i = t.N
    · by_cases e2 : j = t.N
      · omega
      · subst e1
        rw [hnew, hold j (by omega)] at e
        exact absurd ⟨j, by omega, e.symm⟩ hnp
    · by_cases e2 : j = t.N
      · subst e2
        rw [hnew, hold i (by omega)] at e
        exact absurd ⟨i, by omega, e⟩ hnp
      · rw [hold i (by omega), hold j (by omega)] at e
        exact h.inj i j (by omega) (by omega) e
  · rw [hadd]
    by_cases hc : i = p ∧ d = c
    · obtain ⟨rfl, rfl⟩ := hc
      rw [if_pos ⟨rfl, rfl⟩, hN]
      constructor
      · intro e
        injection e with e
        subst e
        exact ⟨by omega, by omega, by rw [hnew, hold i hp]⟩
      · rintro ⟨h1, h2, h3⟩
        by_cases e2 : j = t.N
        · rw [e2]
        · rw [hold j (by omega), hold i hp] at h3
          exact absurd ⟨j, by omega, h3⟩ hnp
    · rw [if_neg hc, h.nxt, hN]
      constructor
      · rintro ⟨h1, h2, h3⟩
        exact ⟨by omega, by omega, by rw [hold j h2, hold i h1]; exact h3⟩
      · rintro ⟨h1, h2, h3⟩
        by_cases e1 : i = t.N
        · exfalso
          subst e1
          by_cases e2 : j = t.N
          · subst e2
            have := congrArg List.length h3
            simp at this
          · rw [hnew, hold j (by omega)] at h3
            exact hnp (h.pre _ d ⟨j, by omega, h3⟩)
        · by_cases e2 : j = t.N
          · exfalso
            subst e2
            rw [hnew, hold i (by omega)] at h3
            have h4 := List.append_inj' h3 rfl
            obtain ⟨h5, h6⟩ := h4
            simp at h6
            exact hc ⟨(h.inj p i hp (by omega) h5).symm, h6.symm⟩
          · rw [hold j (by omega), hold i (by omega)] at h3
            exact ⟨by omega, by omega, h3⟩
  · rw [hN] at hj
    by_cases e : j = t.N
    · subst e; exact ⟨p, c, by rw [hadd, if_pos ⟨rfl, rfl⟩]⟩
    · obtain ⟨i, d, hid⟩ := h.par j (by omega) hj0
      refine ⟨i, d, ?_⟩
      rw [hadd, if_neg]
      · exact hid
      · rintro ⟨rfl, rfl⟩
        rw [hn] at hid; cases hid
  · rw [hadd] at hh
    split at hh
    · rename_i hc
      injection hh with hh
      omega
    · exact h.up i d j hh
  · rw [hN] at hi
    by_cases e : i = t.N
    · subst e
      rw [hnew]
      refine ⟨by simp [AC.add], fun k => ?_⟩
      simp only [AC.add, if_true, List.not_mem_nil, false_iff]
      rintro ⟨h1, h2⟩
      exact hnp (h2 ▸ h.all k h1)
    · have : (t.add p c).ends i = t.ends i := by simp [AC.add, e]
      rw [this, hold i (by omega)]
      exact h.ends i (by omega)
  · obtain ⟨j, h1, h2⟩ := h.all k hk
    exact ⟨j, by omega, by rw [hold j h1]; exact h2⟩
/-- A word ends at a node. -/
def AC.endAt (t : AC) (p k : Nat) : AC := ⟨t.N, t.str, t.nx, fun i => if i = p then t.ends i ++ [k] else t.ends i⟩
theorem AC.Ok.endAt {t : AC} {ws : List (List Int)} (h : t.Ok ws) {p : Nat} {w : List Int} (hp : p < t.N) (hw : t.str p = w) : (t.endAt p ws.length).Ok (ws ++ [w]) := by
  have hl : (ws ++ [w]).length = ws.length + 1 := by simp
  have g1 : ∀ k, k < ws.length → gL (ws ++ [w]) k = gL ws k := fun k hk => gL_left hk
  have g2 : gL (ws ++ [w]) ws.length = w := gL_last
  refine ⟨h.pos, h.root, h.inj, h.nxt, h.par, h.up, fun i hi => ?_, fun k hk => ?_⟩
  · obtain ⟨h1, h2⟩ := h.ends i hi
    by_cases e : i = p
    · subst e
      have : (t.endAt i ws.length).ends i = t.ends i ++ [ws.length] := by simp [AC.endAt]
      rw [this]
      refine ⟨?_, fun k => ?_⟩
      · rw [List.pairwise_append]
        refine ⟨h1, by simp, fun a ha b hb => ?_⟩
        simp at hb
        have := ((h2 a).1 ha).1
        omega
      · rw [List.mem_append, h2 k, List.mem_singleton, hl]
        constructor
        · rintro (⟨a, b⟩ | rfl)
          · exact ⟨by omega, by rw [g1 k a]; exact b⟩
          · exact ⟨by omega, by rw [g2]; exact hw.symm⟩
        · rintro ⟨a, b⟩
          by_cases e : k = ws.length
          · exact .inr e
          · rw [g1 k (by omega)] at b
            exact .inl ⟨by omega, b⟩
    · have : (t.endAt p ws.length).ends i = t.ends i := by simp [AC.endAt, e]
      rw [this]
      refine ⟨h1, fun k => ?_⟩
      rw [h2 k, hl]
      constructor
      · rintro ⟨a, b⟩; exact ⟨by omega, by rw [g1 k a]; exact b⟩
      · rintro ⟨a, b⟩
        by_cases e2 : k = ws.length
        · exfalso
          rw [e2, g2] at b
          exact e (h.inj i p hi hp (by rw [hw]; exact b.symm))
        · rw [g1 k (by omega)] at b
          exact ⟨by omega, b⟩
  · rw [hl] at hk
    by_cases e : k = ws.length
    · rw [e, g2]; exact ⟨p, hp, hw⟩
    · rw [g1 k (by omega)]; exact h.all k (by omega)

/-! Falling back. -/
/-- A node's fall is right. -/
def FallAt (t : AC) (fall : Nat → Nat) (i : Nat) : Prop := fall i < t.N ∧ t.str (fall i) = lsuf t.isP (t.str i).tail
/-- A step from node i by c leads to j. -/
def StepTo (t : AC) (i : Nat) (c : Int) (j : Nat) : Prop := j < t.N ∧ t.str j = lsuf t.isP (t.str i ++ [c])
theorem step_hit {t : AC} {ws : List (List Int)} (h : t.Ok ws) {i j : Nat} {c : Int} (hn : t.nx i c = some j) : StepTo t i c j := by
  obtain ⟨h1, h2, h3⟩ := (h.nxt i c j).1 hn
  exact ⟨h2, by rw [lsuf_self ⟨j, h2, h3⟩]; exact h3⟩
theorem step_zero {t : AC} {ws : List (List Int)} (h : t.Ok ws) {c : Int} (hn : t.nx 0 c = none) : StepTo t 0 c 0 := by
  refine ⟨h.pos, ?_⟩
  rw [h.root, List.nil_append]
  have hnp : ¬ t.isP [c] := fun hh => by
    have h2 := (h.kid (c := c) h.pos).2 (by rw [h.root]; simpa using hh)
    rw [hn] at h2; cases h2
  unfold lsuf
  rw [if_neg hnp]
  rfl
theorem step_fall {t : AC} {ws : List (List Int)} (h : t.Ok ws) {fall : Nat → Nat} {i j : Nat} {c : Int} (hi : i < t.N) (hi0 : i ≠ 0) (hn : t.nx i c = none) (hf : FallAt t fall i) (hj : StepTo t (fall i) c j) : StepTo t i c j := by
  refine ⟨hj.1, ?_⟩
  have hnp : ¬ t.isP (t.str i ++ [c]) := fun hh => by
    have := (h.kid hi).2 hh
    rw [hn] at this; cases this
  have hne : t.str i ≠ [] := fun e => hi0 (h.inj i 0 hi h.pos (by rw [e, h.root]))
  rw [hj.2, hf.2, lsuf_miss h.nil h.pre hne hnp]
/-- The fall of a child. -/
theorem fall_kid {t : AC} {ws : List (List Int)} (h : t.Ok ws) {fall : Nat → Nat} {i j k : Nat} {c : Int} (hi0 : i ≠ 0) (hn : t.nx i c = some j) (hf : FallAt t fall i) (hk : StepTo t (fall i) c k) : k < t.N ∧ t.str k = lsuf t.isP (t.str j).tail := by
  obtain ⟨h1, h2, h3⟩ := (h.nxt i c j).1 hn
  have hne : t.str i ≠ [] := fun e => hi0 (h.inj i 0 h1 h.pos (by rw [e, h.root]))
  refine ⟨hk.1, ?_⟩
  rw [hk.2, hf.2, h3, List.tail_append_of_ne_nil hne, ← lsuf_snoc h.nil h.pre]
theorem fall_root {t : AC} {ws : List (List Int)} (h : t.Ok ws) {j : Nat} {c : Int} (hn : t.nx 0 c = some j) : t.str 0 = lsuf t.isP (t.str j).tail := by
  obtain ⟨_, _, h3⟩ := (h.nxt 0 c j).1 hn
  rw [h3, h.root]
  rfl
theorem fall_less {t : AC} {ws : List (List Int)} (h : t.Ok ws) {fall : Nat → Nat} {i : Nat} (hi : i < t.N) (hi0 : i ≠ 0) (hf : FallAt t fall i) : (t.str (fall i)).length < (t.str i).length := by
  have hne : t.str i ≠ [] := fun e => hi0 (h.inj i 0 hi h.pos (by rw [e, h.root]))
  rw [hf.2]
  have := (lsuf_suffix (P := t.isP) (t.str i).tail).length_le
  have h2 : 0 < (t.str i).length := List.length_pos_iff.2 hne
  rw [List.length_tail] at this
  omega
end Go.Proofs.Ytdkjkcegchohfaa
