/-
  More: how all words that begin so go on; how many entries a map has.
-/
import Derived.Test.YtdkjkcegchohfaaTriE
namespace Go.Proofs.Ytdkjkcegchohfaa
open Go.RowKit Go.Maps
open Go.WideShapes
open Go.WideElems (Fit rd rg pl rd_key rd_val rg_of)
set_option linter.unusedVariables false
set_option linter.unusedSimpArgs false
attribute [local go_sem] Oper.semAt_some

/-- Block b is a map of just s entries: f. -/
def MapS (w : World) (b n : Nat) (f : Int → Option Value) (s : Nat) : Prop := ∃ D : DataW Value, w.ownsMap Try.prog 3 itself b n D ∧ ReadsO D f ∧ Maps.size D = s
theorem MapO.sized {w : World} {b n : Nat} {f : Int → Option Value} (h : MapO w b n f) : ∃ s, MapS w b n f s := by
  obtain ⟨D, h1, h2⟩ := h
  exact ⟨_, D, h1, h2, rfl⟩
theorem MapS.len {w : World} {b n s : Nat} {f : Int → Option Value} (h : MapS w b n f s) {t e : TypeId} (ht : Try.prog.underlying t = some (.map 3 e)) (ty : TypeId) : (Builtin.len_ #[t] ty #[.map (some b)]).run Try.prog w = .ok (.int .i64 s) w := by
  obtain ⟨D, h1, h2, rfl⟩ := h
  exact h1.len ht ty
theorem MapS.keys {w : World} {b n s : Nat} {f : Int → Option Value} (h : MapS w b n f s) : ∃ ks : List Int, ks.Nodup ∧ ks.length = s ∧ (∀ x ∈ ks, (Lit.int .i64 x).wf = true) ∧ ∀ x, (Lit.int .i64 x).wf = true → (x ∈ ks ↔ (f x).isSome = true) := by
  obtain ⟨D, h1, h2, h3⟩ := h
  have key : ∃ es : List (Lit × DataW Value), D = .map es ∧ es.Pairwise (fun p q => p.1 ≠ q.1) ∧ ∀ p ∈ es, ∃ x, p.1 = .int .i64 x ∧ (Lit.int .i64 x).wf = true := by
    obtain ⟨es, clock, _, F, _, rfl⟩ := h1
    refine ⟨_, rfl, ((sorted_perm _).pairwise_iff (fun {_ _} hne => Ne.symm hne)).2 (Maps.fit_apart key_intV F), fun p hp => ?_⟩
    obtain ⟨x, hx, rfl⟩ := List.mem_map.1 (mem_sorted.1 hp)
    obtain ⟨y, hy⟩ := F.reads x hx
    rw [rg_of hy]
    obtain ⟨z, _, e, hw⟩ := Maps.keyOf_int_inv Try.underlying3 (rd_key hy)
    exact ⟨z, e, hw⟩
  obtain ⟨es, rfl, hp, hk⟩ := key
  let g : Lit × DataW Value → Int := fun p => match p.1 with | .int _ x => x | _ => 0
  have hg : ∀ p ∈ es, p.1 = .int .i64 (g p) ∧ (Lit.int .i64 (g p)).wf = true := fun p hp => by
    obtain ⟨x, e, hw⟩ := hk p hp
    have : g p = x := by simp only [g, e]
    rw [this]
    exact ⟨e, hw⟩
  refine ⟨es.map g, ?_, by rw [List.length_map]; exact h3, fun x hx => by obtain ⟨p, hp', rfl⟩ := List.mem_map.1 hx; exact (hg p hp').2, fun x hx => ?_⟩
  · unfold List.Nodup
    rw [List.pairwise_map]
    refine List.Pairwise.imp_of_mem (fun {a b} ha hb hab e => hab ?_) hp
    rw [(hg a ha).1, (hg b hb).1, e]
  · rw [← h2.has hx, has_eq]
    constructor
    · intro h
      obtain ⟨p, hp', rfl⟩ := List.mem_map.1 h
      refine List.any_eq_true.2 ⟨p, hp', ?_⟩
      rw [(hg p hp').1]
      exact WideAt.sameKey_self (show WideAt.IsKeyLit (.int .i64 (g p)) from trivial)
    · intro h
      obtain ⟨p, hp', hs⟩ := List.any_eq_true.1 h
      rw [(hg p hp').1, key_sameT] at hs
      simp at hs
      exact List.mem_map.2 ⟨p, hp', hs⟩
theorem MapS.one {w : World} {b n s : Nat} {f : Int → Option Value} (h : MapS w b n f s) {c : Int} (hw : (Lit.int .i64 c).wf = true) (hwf : ∀ x, (f x).isSome = true → (Lit.int .i64 x).wf = true) (hc : ∀ x, (f x).isSome = true ↔ x = c) : s = 1 := by
  obtain ⟨ks, h1, rfl, h2, h3⟩ := h.keys
  have hm : c ∈ ks := (h3 c hw).2 ((hc c).2 rfl)
  cases ks with
  | nil => simp at hm
  | cons a ks =>
    cases ks with
    | nil => rfl
    | cons d ks =>
      exfalso
      have ea : a = c := (hc a).1 ((h3 a (h2 a (by simp))).1 (by simp))
      have ed : d = c := (hc d).1 ((h3 d (h2 d (by simp))).1 (by simp))
      rw [List.nodup_cons] at h1
      exact h1.1 (by rw [ea, ed]; simp)
/-- 'range m': so many are to come. -/
theorem wpList_range_s (w : World) {ops : Array Oper} {rest : List Oper} {o : Oper} {a : Act} {Q : Exit → Act → World → Prop} (hg : o.guard = none) (m : Operand) (t e : TypeId) (hop : o.op = Op.range t m)
    (ht : Try.prog.underlying t = some (.map 3 e)) {b n s : Nat} {f : Int → Option Value} (hm : a.eval m = .map (some b)) (h : MapS w b n f s)
    (hK : ∀ w' left, RangesO w' b w.heap.size n f left s → (∀ k, (Lit.int .i64 k).wf = true → left (.int .i64 k) = (f k).isSome) → w.grownBy w' none → w'.heap.size = w.heap.size + 1 →
      wpList Try.prog ops Q rest (a.put o.dst (.pointer (some ⟨w.heap.size, 0, none⟩))) w') :
    wpList Try.prog ops Q (o :: rest) a w := by
  obtain ⟨D, h1, h2, rfl⟩ := h
  refine wpList_range_own w hg m t hop 3 e key_intV ht itself b n D hm h1 fun w' hr hgr hs => ?_
  exact hK w' _ ⟨D, hr, h2⟩ (fun k hk => h2.has hk) hgr hs

/-! What More tells. -/
def cntF (S : List (List Int)) (r : List Int) : Nat := S.countP fun x => decide (r <+: x)
theorem countP_same {P Q : List Int → Bool} : ∀ {S : List (List Int)}, (∀ x ∈ S, P x = true → Q x = true) → S.countP P = S.countP Q → ∀ x ∈ S, Q x = true → P x = true
  | [], _, _, x, hx, _ => by simp at hx
  | y :: S, h, e, x, hx, hq => by
    have hle : S.countP P ≤ S.countP Q := List.countP_mono_left (fun x hx => h x (by simp [hx]))
    rw [List.countP_cons, List.countP_cons] at e
    have hy : Q y = true → P y = true := fun hq => by
      cases hp : P y with
      | true => rfl
      | false => rw [hp, hq] at e; simp at e; omega
    have e2 : S.countP P = S.countP Q := by
      by_cases hqy : Q y = true
      · rw [hqy, hy hqy] at e; simpa using e
      · have : ¬ P y = true := fun hp => hqy (h y (by simp) hp)
        simp [hqy, this] at e; exact e
    rcases List.mem_cons.1 hx with rfl | hx
    · exact hy hq
    · exact countP_same (fun x hx => h x (by simp [hx])) e2 x hx hq
/-- Here it ends: a word ends, or it goes on in no one way. -/
def EndsF (S : List (List Int)) (r : List Int) : Prop := r ∈ S ∨ ¬ ∃ c, ∀ d, (FS S (r ++ [d])).isSome = true ↔ d = c
theorem ends_count {S : List (List Int)} {r y : List Int} (h : EndsF S r) (hy : y ∈ S) (hr : r <+: y) (hl : r.length < y.length) : cntF S (y.take (r.length + 1)) ≠ cntF S r := by
  intro e
  obtain ⟨s, rfl⟩ := hr
  cases s with
  | nil => simp at hl
  | cons c s =>
    have ht : (r ++ c :: s).take (r.length + 1) = r ++ [c] := by
      have e3 : r ++ c :: s = (r ++ [c]) ++ s := by simp
      rw [e3]
      exact List.take_left' (by simp)
    rw [ht] at e
    unfold cntF at e
    have hall := countP_same (P := fun x => decide (r ++ [c] <+: x)) (Q := fun x => decide (r <+: x)) (fun x _ hp => by
      simp at hp ⊢
      exact (List.prefix_append r [c]).trans hp) e
    simp only [decide_eq_true_eq] at hall
    rcases h with h | h
    · have := (hall r h (List.prefix_refl r)).length_le
      simp only [List.length_append, List.length_singleton] at this
      omega
    · refine h ⟨c, fun d => ?_⟩
      rw [FS_kid]
      constructor
      · rintro ⟨x, hx, hp⟩
        have h1 := hall x hx ((List.prefix_append r [d]).trans hp)
        have h2 := List.prefix_of_prefix_length_le hp h1 (by simp)
        have := h2.eq_of_length (by simp)
        simpa using List.append_cancel_left this
      · rintro rfl
        exact ⟨_, hy, ⟨s, by simp⟩⟩
theorem more_count {S : List (List Int)} {r : List Int} {c : Int} (hn : r ∉ S) (hc : ∀ d, (FS S (r ++ [d])).isSome = true → d = c) : cntF S (r ++ [c]) = cntF S r := by
  unfold cntF
  refine List.countP_congr fun x hx => ?_
  simp only [decide_eq_true_eq]
  constructor
  · exact fun h => (List.prefix_append r [c]).trans h
  · rintro ⟨s, rfl⟩
    cases s with
    | nil => simp at hx; exact absurd hx hn
    | cons d s =>
      have := hc d (FS_kid.2 ⟨_, hx, ⟨s, by simp⟩⟩)
      subst this
      exact ⟨s, by simp⟩
end Go.Proofs.Ytdkjkcegchohfaa
