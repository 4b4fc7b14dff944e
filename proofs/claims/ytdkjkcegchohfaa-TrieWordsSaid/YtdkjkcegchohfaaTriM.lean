/-
  FREDKIN: words by their beginnings, in plain Lean: what lies at each path; a word put in; the words behind a path, rising.
-/
import Derived.Test.YtdkjkcegchohfaaBase
namespace Go.Proofs.Ytdkjkcegchohfaa
set_option linter.unusedVariables false

/-- What lies at each path: does a word end there; how many words begin so. -/
abbrev TF := List Int → Option (Bool × Nat)
def atF (F : TF) (q : List Int) : Bool × Nat := (F q).getD (false, 0)
def freshF (F : TF) (x : List Int) : Nat := if (atF F x).1 then 0 else 1
def setF (F : TF) (p : List Int) (v : Bool × Nat) : TF := fun q => if q = p then some v else F q
/-- A word w put in behind a path p. -/
def addF (F : TF) (p w : List Int) : TF := fun q => if p <+: q ∧ q <+: p ++ w then some ((atF F q).1 || decide (q = p ++ w), (atF F q).2 + freshF F (p ++ w)) else F q

theorem pre_same {p q : List Int} (h1 : p <+: q) (h2 : q <+: p) : q = p := by
  have e : p.length = q.length := Nat.le_antisymm h1.length_le h2.length_le
  exact (h1.eq_of_length e).symm
theorem not_pre_more (p : List Int) (c : Int) : ¬ p ++ [c] <+: p := fun h => by have := h.length_le; simp only [List.length_append, List.length_singleton] at this; omega
theorem addF_nil (F : TF) (p : List Int) : addF F p [] = setF F p (true, (atF F p).2 + freshF F p) := by
  funext q
  unfold addF setF
  by_cases h : q = p
  · subst h
    simp
  · rw [if_neg (fun ⟨h1, h2⟩ => h (pre_same h1 (by simpa using h2))), if_neg h]
/-- The next node, made if it isn't there. -/
def kidF1 (F : TF) (p : List Int) (c : Int) : TF := if (F (p ++ [c])).isSome then F else setF F (p ++ [c]) (false, 0)
theorem atF_kid (F : TF) (p : List Int) (c : Int) (q : List Int) : atF (kidF1 F p c) q = atF F q := by
  unfold kidF1
  split
  · rfl
  · rename_i h
    unfold atF setF
    by_cases e : q = p ++ [c]
    · subst e
      simp at h
      simp [h]
    · simp [e]
theorem kidF1_ne (F : TF) (p : List Int) (c : Int) {q : List Int} (h : q ≠ p ++ [c]) : kidF1 F p c q = F q := by
  unfold kidF1
  split
  · rfl
  · simp [setF, h]
theorem addF_cons (F : TF) (p : List Int) (c : Int) (u : List Int) :
    addF F p (c :: u) = setF (addF (kidF1 F p c) (p ++ [c]) u) p ((atF F p).1, (atF F p).2 + freshF F (p ++ c :: u)) := by
  funext q
  have ea : p ++ [c] ++ u = p ++ c :: u := by simp
  have ef : freshF (kidF1 F p c) (p ++ [c] ++ u) = freshF F (p ++ c :: u) := by unfold freshF; rw [atF_kid, ea]
  unfold setF
  by_cases h : q = p
  · subst h
    have : ¬ q = q ++ c :: u := fun e => by have := congrArg List.length e; simp at this
    simp [addF, this]
  · rw [if_neg h]
    unfold addF
    rw [ef, ea, atF_kid]
    by_cases hq : p <+: q ∧ q <+: p ++ c :: u
    · rw [if_pos hq]
      have : p ++ [c] <+: q := by
        obtain ⟨⟨r, rfl⟩, h2⟩ := hq
        rw [List.prefix_append_right_inj] at h2
        cases r with
        | nil => simp at h
        | cons x r =>
          obtain ⟨rfl, _⟩ := List.cons_prefix_cons.1 h2
          exact ⟨r, by simp⟩
      rw [if_pos ⟨this, hq.2⟩]
    · have hne : q ≠ p ++ [c] := by
        rintro rfl
        exact hq ⟨List.prefix_append p [c], ⟨u, by simp⟩⟩
      rw [if_neg hq, if_neg (fun ⟨h1, h2⟩ => hq ⟨(List.prefix_append p [c]).trans h1, h2⟩), kidF1_ne F p c hne]

/-- The state of a list of words, each once. -/
def FS (S : List (List Int)) : TF := fun q => if q = [] ∨ ∃ x ∈ S, q <+: x then some (decide (q ∈ S), S.countP fun x => decide (q <+: x)) else none
def moreS (S : List (List Int)) (w : List Int) : List (List Int) := if w ∈ S then S else w :: S
def distinct (ls : List (List Int)) : List (List Int) := ls.foldl moreS []

theorem atF_FS (S : List (List Int)) (q : List Int) : atF (FS S) q = (decide (q ∈ S), S.countP fun x => decide (q <+: x)) := by
  unfold atF FS
  by_cases h : q = [] ∨ ∃ x ∈ S, q <+: x
  · rw [if_pos h]; rfl
  · rw [if_neg h]
    have h1 : q ∉ S := fun hm => h (.inr ⟨q, hm, List.prefix_refl q⟩)
    have h2 : S.countP (fun x => decide (q <+: x)) = 0 := by
      rw [List.countP_eq_zero]
      intro x hx
      simp only [decide_eq_true_eq]
      exact fun hp => h (.inr ⟨x, hx, hp⟩)
    simp [h1, h2]
theorem FS_add (S : List (List Int)) (w : List Int) : addF (FS S) [] w = FS (moreS S w) := by
  funext q
  have hf : freshF (FS S) w = if w ∈ S then 0 else 1 := by unfold freshF; rw [atF_FS]; simp
  unfold addF
  rw [List.nil_append, atF_FS, hf]
  unfold moreS
  by_cases hw : w ∈ S
  · rw [if_pos hw, if_pos hw]
    by_cases hq : q <+: w
    · rw [if_pos ⟨List.nil_prefix, hq⟩]
      unfold FS
      rw [if_pos (.inr ⟨w, hw, hq⟩)]
      by_cases e : q = w
      · subst e; simp [hw]
      · simp [e]
    · rw [if_neg (fun h => hq h.2)]
  · rw [if_neg hw, if_neg hw]
    by_cases hq : q <+: w
    · rw [if_pos ⟨List.nil_prefix, hq⟩]
      unfold FS
      rw [if_pos (.inr ⟨w, by simp, hq⟩)]
      simp [hq, Bool.or_comm]
    · rw [if_neg (fun h => hq h.2)]
      have h0 : q ≠ [] := fun e => hq (e ▸ List.nil_prefix)
      have h1 : q ≠ w := fun e => hq (e ▸ List.prefix_refl w)
      unfold FS
      simp [hq, h0, h1]
theorem FS_start : setF (fun _ => none) [] (false, 0) = FS [] := by
  funext q
  unfold setF FS
  by_cases h : q = [] <;> simp [h]
theorem mem_moreS {S : List (List Int)} {w x : List Int} : x ∈ moreS S w ↔ x ∈ S ∨ x = w := by
  unfold moreS
  split
  · rename_i h
    constructor
    · exact .inl
    · rintro (h' | rfl) <;> assumption
  · rw [List.mem_cons, or_comm]
theorem nodup_moreS {S : List (List Int)} {w : List Int} (h : S.Nodup) : (moreS S w).Nodup := by
  unfold moreS
  split
  · exact h
  · exact List.nodup_cons.2 ⟨by assumption, h⟩
theorem distinct_snoc (ls : List (List Int)) (w : List Int) : distinct (ls ++ [w]) = moreS (distinct ls) w := by simp [distinct, List.foldl_append]
theorem foldl_mem (ls S : List (List Int)) (x : List Int) : x ∈ ls.foldl moreS S ↔ x ∈ S ∨ x ∈ ls := by
  induction ls generalizing S with
  | nil => simp
  | cons w ls ih => rw [List.foldl_cons, ih, mem_moreS, List.mem_cons, or_assoc]
theorem mem_distinct {ls : List (List Int)} {x : List Int} : x ∈ distinct ls ↔ x ∈ ls := by simp [distinct, foldl_mem]
theorem nodup_foldl (ls S : List (List Int)) (h : S.Nodup) : (ls.foldl moreS S).Nodup := by
  induction ls generalizing S with
  | nil => exact h
  | cons w ls ih => exact ih _ (nodup_moreS h)
theorem nodup_distinct (ls : List (List Int)) : (distinct ls).Nodup := nodup_foldl ls [] List.nodup_nil
theorem len_moreS (S : List (List Int)) (w : List Int) : (moreS S w).length ≤ S.length + 1 := by unfold moreS; split <;> simp
theorem len_foldl (ls S : List (List Int)) : (ls.foldl moreS S).length ≤ S.length + ls.length := by
  induction ls generalizing S with
  | nil => simp
  | cons w ls ih => rw [List.foldl_cons]; have := ih (moreS S w); have := len_moreS S w; simp; omega
theorem len_distinct (ls : List (List Int)) : (distinct ls).length ≤ ls.length := by have := len_foldl ls []; simpa [distinct] using this

/-! The order of lists. -/
def ltL : List Int → List Int → Prop
  | [], _ :: _ => True
  | x :: xs, y :: ys => x < y ∨ (x = y ∧ ltL xs ys)
  | _, [] => False
theorem ltL_irrefl : ∀ x : List Int, ¬ ltL x x
  | [], h => h
  | x :: xs, h => by
    rcases h with h | ⟨_, h⟩
    · omega
    · exact ltL_irrefl xs h
theorem ltL_trans : ∀ {x y z : List Int}, ltL x y → ltL y z → ltL x z
  | [], _ :: _, _ :: _, _, _ => trivial
  | [], [], _, h, _ => h.elim
  | _ :: _, [], _, h, _ => by cases h
  | _, _ :: _, [], _, h => by cases h
  | x :: xs, y :: ys, z :: zs, h1, h2 => by
    rcases h1 with h1 | ⟨rfl, h1⟩ <;> rcases h2 with h2 | ⟨rfl, h2⟩
    · exact .inl (by omega)
    · exact .inl h1
    · exact .inl h2
    · exact .inr ⟨rfl, ltL_trans h1 h2⟩
/-- Rising, each once. -/
def Rises (L : List (List Int)) : Prop := L.Pairwise ltL
theorem Rises.nodup {L : List (List Int)} (h : Rises L) : L.Nodup := List.Pairwise.imp (fun {a b} hab e => by subst e; exact ltL_irrefl a hab) h
theorem Rises.eq : ∀ {L M : List (List Int)}, Rises L → Rises M → (∀ x, x ∈ L ↔ x ∈ M) → L = M
  | [], [], _, _, _ => rfl
  | [], y :: M, _, _, h => by have := (h y).2 (by simp); simp at this
  | x :: L, [], _, _, h => by have := (h x).1 (by simp); simp at this
  | x :: L, y :: M, h1, h2, h => by
    obtain ⟨a1, b1⟩ := List.pairwise_cons.1 h1
    obtain ⟨a2, b2⟩ := List.pairwise_cons.1 h2
    have e : x = y := by
      rcases List.mem_cons.1 ((h x).1 (by simp)) with e | hm
      · exact e
      · rcases List.mem_cons.1 ((h y).2 (by simp)) with e | hm'
        · exact e.symm
        · exact absurd (ltL_trans (a1 y hm') (a2 x hm)) (ltL_irrefl x)
    subst e
    congr 1
    refine Rises.eq b1 b2 fun z => ?_
    constructor
    · intro hz
      rcases List.mem_cons.1 ((h z).1 (by simp [hz])) with e | hm
      · subst e; exact absurd (a1 z hz) (ltL_irrefl z)
      · exact hm
    · intro hz
      rcases List.mem_cons.1 ((h z).2 (by simp [hz])) with e | hm
      · subst e; exact absurd (a2 z hz) (ltL_irrefl z)
      · exact hm
theorem Rises.filter {L : List (List Int)} (h : Rises L) (f : List Int → Bool) : Rises (L.filter f) := List.Pairwise.filter f h
theorem ltL_app {p x y : List Int} : ltL (p ++ x) (p ++ y) ↔ ltL x y := by
  induction p with
  | nil => rfl
  | cons a p ih =>
    constructor
    · rintro (h | ⟨_, h⟩)
      · omega
      · exact ih.1 h
    · exact fun h => .inr ⟨rfl, ih.2 h⟩
theorem ltL_nil {p x : List Int} (h : p <+: x) (hne : x ≠ p) : ltL p x := by
  obtain ⟨r, rfl⟩ := h
  cases r with
  | nil => simp at hne
  | cons a r => have := (ltL_app (p := p) (x := []) (y := a :: r)).2 trivial; simpa using this

/-- The words behind a path, in the order in which they are told: kids p: the characters that go on. -/
def eachF (S : List (List Int)) (kids : List Int → List Int) : Nat → List Int → List (List Int)
  | 0, _ => []
  | f + 1, p => (if p ∈ S then [p] else []) ++ (kids p).flatMap fun c => eachF S kids f (p ++ [c])
/-- What kids tells: rising; just those that go on. -/
def KidsOk (S : List (List Int)) (kids : List Int → List Int) : Prop := ∀ p, (kids p).Pairwise (· < ·) ∧ ∀ c, c ∈ kids p ↔ ∃ x ∈ S, p ++ [c] <+: x
theorem mem_each {S : List (List Int)} {kids : List Int → List Int} (hk : KidsOk S kids) (hS : ∀ x ∈ S, x.length ≤ 24) : ∀ (f : Nat) (p : List Int), 25 ≤ p.length + f → ∀ x, x ∈ eachF S kids f p ↔ x ∈ S ∧ p <+: x
  | 0, p, h, x => by
    simp only [eachF, List.not_mem_nil, false_iff]
    rintro ⟨h1, h2⟩
    have := hS x h1
    have := h2.length_le
    omega
  | f + 1, p, h, x => by
    simp only [eachF, List.mem_append, List.mem_flatMap]
    constructor
    · rintro (h1 | ⟨c, hc, h1⟩)
      · split at h1
        · rename_i hp
          simp at h1
          subst h1
          exact ⟨hp, List.prefix_refl _⟩
        · simp at h1
      · have := (mem_each hk hS f (p ++ [c]) (by simp; omega) x).1 h1
        exact ⟨this.1, (List.prefix_append p [c]).trans this.2⟩
    · rintro ⟨h1, h2⟩
      by_cases e : x = p
      · subst e
        rw [if_pos h1]
        simp
      · obtain ⟨r, rfl⟩ := h2
        cases r with
        | nil => simp at e
        | cons c r =>
          have hp : p ++ [c] <+: p ++ c :: r := ⟨r, by simp⟩
          exact .inr ⟨c, ((hk p).2 c).2 ⟨_, h1, hp⟩, (mem_each hk hS f (p ++ [c]) (by simp; omega) _).2 ⟨h1, hp⟩⟩
theorem each_pre {S : List (List Int)} {kids : List Int → List Int} : ∀ (f : Nat) (p : List Int) (x : List Int), x ∈ eachF S kids f p → p <+: x
  | 0, p, x, h => by simp [eachF] at h
  | f + 1, p, x, h => by
    simp only [eachF, List.mem_append, List.mem_flatMap] at h
    rcases h with h | ⟨c, _, h⟩
    · split at h
      · simp at h; subst h; exact List.prefix_refl _
      · simp at h
    · exact (List.prefix_append p [c]).trans (each_pre f _ x h)
theorem rises_each {S : List (List Int)} {kids : List Int → List Int} (hk : KidsOk S kids) : ∀ (f : Nat) (p : List Int), Rises (eachF S kids f p)
  | 0, p => List.Pairwise.nil
  | f + 1, p => by
    unfold eachF Rises
    rw [List.pairwise_append]
    refine ⟨by split <;> simp, ?_, ?_⟩
    · have hs := (hk p).1
      generalize kids p = ks at hs
      induction ks with
      | nil => simp
      | cons c ks ih =>
        obtain ⟨a, b⟩ := List.pairwise_cons.1 hs
        rw [List.flatMap_cons, List.pairwise_append]
        refine ⟨rises_each hk f _, ih b, fun x hx y hy => ?_⟩
        obtain ⟨d, hd, hy⟩ := List.mem_flatMap.1 hy
        obtain ⟨r, rfl⟩ := each_pre f _ x hx
        obtain ⟨s, rfl⟩ := each_pre f _ y hy
        rw [List.append_assoc, List.append_assoc, ltL_app]
        exact .inl (a d hd)
    · intro x hx y hy
      split at hx
      · simp at hx
        subst hx
        obtain ⟨d, hd, hy⟩ := List.mem_flatMap.1 hy
        obtain ⟨s, rfl⟩ := each_pre f _ y hy
        rw [List.append_assoc]
        exact ltL_nil (List.prefix_append _ _) (fun e => by have := congrArg List.length e; simp at this)
      · simp at hx
theorem each_len {S : List (List Int)} {kids : List Int → List Int} (hk : KidsOk S kids) (hS : ∀ x ∈ S, x.length ≤ 24) (hn : S.Nodup) {f : Nat} {p : List Int} (hf : 25 ≤ p.length + f) : (eachF S kids f p).length = S.countP fun x => decide (p <+: x) := by
  rw [List.countP_eq_length_filter]
  refine List.Perm.length_eq ((List.perm_ext_iff_of_nodup (rises_each hk f p).nodup (hn.filter _)).2 fun x => ?_)
  rw [mem_each hk hS f p hf, List.mem_filter]
  simp
theorem each_filter {S : List (List Int)} {kids : List Int → List Int} (hk : KidsOk S kids) (hS : ∀ x ∈ S, x.length ≤ 24) {f : Nat} {p : List Int} (hf : 25 ≤ p.length + f) : eachF S kids f p = (eachF S kids 25 []).filter fun x => decide (p <+: x) := by
  refine Rises.eq (rises_each hk f p) ((rises_each hk 25 []).filter _) fun x => ?_
  rw [mem_each hk hS f p hf, List.mem_filter, mem_each hk hS 25 [] (by simp)]
  simp
end Go.Proofs.Ytdkjkcegchohfaa
