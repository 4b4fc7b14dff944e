/-
  What the builder puts one behind the other, in plain words.
-/
import Derived.Test.YthphlghblmindaaSplB
namespace Go.Proofs.Ythphlghblmindaa
set_option linter.unusedVariables false

/-- The builder. -/
structure Bld where
  out : List Spl
  a : Nat
  op : Bool
  now : Spl
def Bld.begin (b : Bld) : Bld := if b.op then b else ⟨b.out, b.a, true, ⟨b.a, b.a, []⟩⟩
def Bld.put (b : Bld) (x : List Int) : Bld := if x.length = 0 then b else ⟨b.begin.out, b.begin.a, b.begin.op, ⟨b.begin.now.f, b.begin.now.t, b.begin.now.x ++ x⟩⟩
def Bld.keep (b : Bld) : Bld := if b.op then ⟨b.out ++ [b.now], b.a + 1, false, b.now⟩ else ⟨b.out, b.a + 1, false, b.now⟩
def Bld.drop (b : Bld) : Bld := ⟨b.begin.out, b.begin.a + 1, true, ⟨b.begin.now.f, ((b.begin.a + 1 : Nat) : Int), b.begin.now.x⟩⟩
def Bld.keeps (b : Bld) : Nat → Bld
  | 0 => b
  | k + 1 => (b.keeps k).keep
def bld0 : Bld := ⟨[], 0, false, ⟨0, 0, []⟩⟩

/-- Right form of what is there: each behind the last one. -/
def form (n : Int) : Int → List Spl → Prop
  | _, [] => True
  | last, s :: e => last < s.f ∧ s.f ≤ s.t ∧ s.t ≤ n ∧ ¬ (s.f = s.t ∧ s.x.length = 0) ∧ form n s.t e
def lastT : Int → List Spl → Int
  | last, [] => last
  | _, s :: e => lastT s.t e
theorem form_snoc {n : Int} {s : Spl} : ∀ {e : List Spl} {last : Int}, form n last e → lastT last e < s.f → s.f ≤ s.t → s.t ≤ n → ¬ (s.f = s.t ∧ s.x.length = 0) → form n last (e ++ [s])
  | [], last, _, h1, h2, h3, h4 => ⟨h1, h2, h3, h4, trivial⟩
  | u :: e, last, ⟨g1, g2, g3, g4, g5⟩, h1, h2, h3, h4 => ⟨g1, g2, g3, g4, form_snoc g5 h1 h2 h3 h4⟩
theorem lastT_snoc (s : Spl) : ∀ (e : List Spl) (last : Int), lastT last (e ++ [s]) = s.t
  | [], _ => rfl
  | u :: e, _ => lastT_snoc s e u.t

/-- R has come out of M's first b.a numbers. -/
def Made (M : List Int) (b : Bld) (R : List Int) : Prop :=
  b.a ≤ M.length ∧ form M.length (-1) b.out ∧ lastT (-1) b.out < b.a ∧
  if b.op then (∃ R0, (∀ s E, s.f = b.now.f → appF M 0 (b.out ++ s :: E) = R0 ++ s.x ++ appF M s.t.toNat E) ∧ R = R0 ++ b.now.x) ∧ b.now.t = b.a ∧ b.now.f ≤ b.a ∧ lastT (-1) b.out < b.now.f
  else ∀ E, behind b.a E → appF M 0 (b.out ++ E) = R ++ appF M b.a E

theorem app_next {M : List Int} {a : Nat} (ha : a < M.length) {E : List Spl} (h : behind (a + 1) E) : appF M a E = gI M a :: appF M (a + 1) E := by
  have hd : M.drop a = gI M a :: M.drop (a + 1) := by
    rw [List.drop_eq_getElem_cons ha]; simp [gI, ha]
  cases E with
  | nil => simp only [appF]; exact hd
  | cons s E =>
    have hs : ((a + 1 : Nat) : Int) ≤ s.f := h s rfl
    simp only [appF]
    obtain ⟨f, hf⟩ : ∃ f : Nat, s.f.toNat = f + 1 + a := ⟨s.f.toNat - a - 1, by omega⟩
    rw [hf, show f + 1 + a - a = f + 1 by omega, show f + 1 + a - (a + 1) = f by omega, hd]
    simp
theorem app_here {M : List Int} {a : Nat} {s : Spl} {E : List Spl} (h : s.f = (a : Int)) : appF M a (s :: E) = s.x ++ appF M s.t.toNat E := by
  simp only [appF]
  rw [h, Int.toNat_natCast, Nat.sub_self]
  simp

theorem made_start (M : List Int) : Made M bld0 [] := ⟨Nat.zero_le _, trivial, by simp [bld0, lastT], fun E _ => by simp [bld0]⟩
theorem made_begin {M : List Int} {b : Bld} {R : List Int} (h : Made M b R) : Made M b.begin R ∧ b.begin.op = true ∧ b.begin.a = b.a := by
  unfold Bld.begin
  cases ho : b.op with
  | true => exact ⟨by rw [if_pos rfl]; exact h, by rw [if_pos rfl]; exact ho, rfl⟩
  | false =>
    obtain ⟨h1, h2, h3, h4⟩ := h
    rw [ho] at h4
    simp only [Bool.false_eq_true, if_false] at h4 ⊢
    refine ⟨⟨h1, h2, h3, ⟨⟨R, fun s E hs => ?_, by simp⟩, rfl, Int.le_refl _, h3⟩⟩, by trivial, by trivial⟩
    have := h4 (s :: E) (fun u hu => by cases hu; rw [hs]; exact Int.le_refl _)
    rw [this, app_here hs, List.append_assoc]
theorem made_put {M : List Int} {b : Bld} {R x : List Int} (h : Made M b R) : Made M (b.put x) (R ++ x) ∧ (b.put x).a = b.a := by
  unfold Bld.put
  split
  · rename_i h0
    rw [List.eq_nil_of_length_eq_zero h0, List.append_nil]
    exact ⟨h, rfl⟩
  · obtain ⟨hb, ho, ha⟩ := made_begin h
    obtain ⟨h1, h2, h3, h4⟩ := hb
    rw [ho] at h4
    obtain ⟨⟨R0, h5, h6⟩, h7, h8, h9⟩ := h4
    refine ⟨⟨h1, h2, h3, ?_⟩, ha⟩
    rw [ho]
    exact ⟨⟨R0, fun s E hs => h5 s E hs, by rw [h6, List.append_assoc]⟩, h7, h8, h9⟩
theorem made_drop {M : List Int} {b : Bld} {R : List Int} (h : Made M b R) (hl : b.a < M.length) : Made M b.drop R ∧ b.drop.a = b.a + 1 := by
  unfold Bld.drop
  obtain ⟨hb, ho, ha⟩ := made_begin h
  obtain ⟨h1, h2, h3, h4⟩ := hb
  rw [ho] at h4
  obtain ⟨⟨R0, h5, h6⟩, h7, h8, h9⟩ := h4
  refine ⟨⟨by simp only; omega, h2, by simp only; omega, ?_⟩, by simp only; omega⟩
  exact ⟨⟨R0, fun s E hs => h5 s E hs, h6⟩, rfl, by simp only; omega, h9⟩
/-- Something is open only with something in it. -/
def Full (b : Bld) : Prop := b.op = true → ¬ (b.now.f = b.now.t ∧ b.now.x.length = 0)
theorem full_put {b : Bld} {x : List Int} (h : Full b) : Full (b.put x) := by
  unfold Bld.put
  split
  · exact h
  · intro _ hq
    simp only [List.length_append] at hq
    omega
theorem full_drop {M : List Int} {b : Bld} {R : List Int} (h : Made M b R) : Full b.drop := by
  intro _ hq
  obtain ⟨hb, ho, ha⟩ := made_begin h
  obtain ⟨h1, h2, h3, h4⟩ := hb
  rw [ho] at h4
  obtain ⟨_, h7, h8, _⟩ := h4
  have := hq.1
  simp only [Bld.drop] at this
  omega
theorem full_keep (b : Bld) : Full b.keep := by
  intro h
  unfold Bld.keep at h
  split at h <;> cases h
theorem made_keep {M : List Int} {b : Bld} {R : List Int} (h : Made M b R) (hf : Full b) (hl : b.a < M.length) : Made M b.keep (R ++ [gI M b.a]) ∧ b.keep.a = b.a + 1 := by
  obtain ⟨h1, h2, h3, h4⟩ := h
  unfold Bld.keep
  cases ho : b.op with
  | true =>
    rw [ho] at h4
    obtain ⟨⟨R0, h5, h6⟩, h7, h8, h9⟩ := h4
    refine ⟨⟨by simp only [if_true]; omega, ?_, ?_, ?_⟩, rfl⟩
    · exact form_snoc h2 h9 (by omega) (by omega) (hf ho)
    · simp only [if_true]; rw [lastT_snoc]; omega
    · simp only [if_true]
      intro E hE
      have := h5 b.now E rfl
      rw [List.append_assoc, List.singleton_append, this, h7, Int.toNat_natCast, ← h6, app_next hl hE]
      simp
  | false =>
    rw [ho] at h4
    simp only [Bool.false_eq_true, if_false] at h4 ⊢
    refine ⟨⟨by simp only; omega, h2, by simp only; omega, ?_⟩, by trivial⟩
    intro E hE
    have := h4 E (fun u hu => by have := hE u hu; simp only at this; omega)
    simp only
    rw [this, app_next hl hE]
    simp
theorem made_keeps {M : List Int} {b : Bld} {R : List Int} (h : Made M b R) (hf : Full b) : ∀ k, b.a + k ≤ M.length → Made M (b.keeps k) (R ++ (M.drop b.a).take k) ∧ (b.keeps k).a = b.a + k ∧ Full (b.keeps k)
  | 0, _ => ⟨by simpa [Bld.keeps] using h, rfl, hf⟩
  | k + 1, hk => by
    obtain ⟨i1, i2, i3⟩ := made_keeps h hf k (by omega)
    obtain ⟨j1, j2⟩ := made_keep i1 i3 (by omega)
    refine ⟨?_, by show ((b.keeps k).keep).a = _; rw [j2]; omega, full_keep _⟩
    have e : (M.drop b.a).take (k + 1) = (M.drop b.a).take k ++ [gI M (b.a + k)] := by
      rw [List.take_succ_eq_append_getElem (by rw [List.length_drop]; omega), List.getElem_drop]
      simp [gI, show b.a + k < M.length by omega]
    show Made M ((b.keeps k).keep) _
    rw [e, ← List.append_assoc, ← i2]
    exact j1
/-- At the end: what was made out of M is R. -/
theorem made_end {M : List Int} {b : Bld} {R : List Int} (h : Made M b R) (hf : Full b) (hl : b.a = M.length) : appF M 0 b.keep.out = R ∧ form M.length (-1) b.keep.out := by
  obtain ⟨h1, h2, h3, h4⟩ := h
  unfold Bld.keep
  cases ho : b.op with
  | true =>
    rw [ho] at h4
    obtain ⟨⟨R0, h5, h6⟩, h7, h8, h9⟩ := h4
    refine ⟨?_, form_snoc h2 h9 (by omega) (by omega) (hf ho)⟩
    have := h5 b.now [] rfl
    simp only [if_true]
    rw [this, h7, Int.toNat_natCast, ← h6, hl]
    simp [appF]
  | false =>
    rw [ho] at h4
    refine ⟨?_, h2⟩
    have := h4 [] (fun u hu => by cases hu)
    simp only [List.append_nil] at this
    simp only [Bool.false_eq_true, if_false]
    rw [this, hl]
    simp [appF]
end Go.Proofs.Ythphlghblmindaa
