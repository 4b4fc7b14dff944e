/-
  The walk of TrieMore.
-/
import Derived.Test.YtdkjkcegchohfaaTriQ
import Derived.Test.YtdkjkcegchohfaaTriH
import Derived.Test.YtdkjkcegchohfaaLib
import Derived.Test.YtdkjkcegchohfaaEq
import Derived.Test.YtdkjkcegchohfaaConcB
namespace Go.Proofs.Ytdkjkcegchohfaa
open Go.RowKit
set_option linter.unusedVariables false
set_option linter.unusedSimpArgs false
attribute [local go_sem] Oper.semAt_some

theorem cnt_atF (S : List (List Int)) (q : List Int) : (atF (FS S) q).2 = cntF S q := by rw [atF_FS]; rfl
theorem ch_abc : chars ⟨#[97, 98, 99]⟩ = [97, 98, 99] := by simp [chars]
theorem ch_abd : chars ⟨#[97, 98, 100]⟩ = [97, 98, 100] := by simp [chars]
theorem ch_a : chars ⟨#[97]⟩ = [97] := by simp [chars]
theorem ch_b : chars ⟨#[98]⟩ = [98] := by simp [chars]
theorem dist_abc : distinct [chars ⟨#[97, 98, 99]⟩, chars ⟨#[97, 98, 100]⟩] = [[97, 98, 100], [97, 98, 99]] := by rw [ch_abc, ch_abd]; simp [distinct, moreS]
theorem more_abc {x : List Int} (h1 : (FS [[97, 98, 100], [97, 98, 99]] ([97] ++ x)).isSome = true) (h2 : cntF [[97, 98, 100], [97, 98, 99]] ([97] ++ x) = cntF [[97, 98, 100], [97, 98, 99]] [97]) (h3 : EndsF [[97, 98, 100], [97, 98, 99]] ([97] ++ x)) : x = [98] := by
  have hx : x <+: [98, 100] ∨ x <+: [98, 99] := by
    unfold FS at h1
    split at h1
    · rename_i h
      rcases h with h | ⟨y, hy, hp⟩
      · simp at h
      · simp only [List.mem_cons, List.not_mem_nil, or_false] at hy
        rcases hy with rfl | rfl
        · exact .inl (List.cons_prefix_cons.1 hp).2
        · exact .inr (List.cons_prefix_cons.1 hp).2
    · cases h1
  have hx2 : x = [] ∨ x = [98] ∨ x = [98, 100] ∨ x = [98, 99] := by
    rcases hx with ⟨r, hr⟩ | ⟨r, hr⟩
    · rcases x with _ | ⟨a, _ | ⟨b, _ | ⟨c, x⟩⟩⟩ <;> simp at hr <;> simp_all
    · rcases x with _ | ⟨a, _ | ⟨b, _ | ⟨c, x⟩⟩⟩ <;> simp at hr <;> simp_all
  rcases hx2 with rfl | rfl | rfl | rfl
  · exfalso
    rcases h3 with h3 | h3
    · simp at h3
    · refine h3 ⟨98, fun d => ?_⟩
      rw [FS_kid]
      simp [List.cons_prefix_cons]
  · rfl
  · exact absurd h2 (by decide)
  · exact absurd h2 (by decide)
theorem wf_dist {ls : List (List Int)} (h : WfL ls) : ∀ x ∈ distinct ls, ∀ y ∈ x, (Lit.int .i64 y).wf = true := fun x hx => by
  obtain ⟨i, hi, rfl⟩ := List.mem_iff_getElem.1 (mem_distinct.1 hx)
  have := h i hi
  unfold gL at this
  rwa [List.getElem?_eq_getElem hi] at this
theorem good_dist {ls : List (List Int)} (h : GoodT ls) : ∀ x ∈ distinct ls, x.length ≤ 24 := fun x hx => by
  obtain ⟨i, hi, rfl⟩ := List.mem_iff_getElem.1 (mem_distinct.1 hx)
  have := h.2 i hi
  unfold gL at this
  rwa [List.getElem?_eq_getElem hi] at this
theorem wf_small {l : List Int} (h : ∀ y ∈ l, 0 ≤ y ∧ y ≤ 255) : ∀ y ∈ l, (Lit.int .i64 y).wf = true := fun y hy => wf_i64' (by have := h y hy; omega) (by have := h y hy; omega)
theorem good_abc : GoodT [chars ⟨#[97, 98, 99]⟩, chars ⟨#[97, 98, 100]⟩] := ⟨by simp, fun i hi => by
  simp at hi
  rcases (show i = 0 ∨ i = 1 by omega) with rfl | rfl <;> decide⟩
theorem wf_abc : WfL [chars ⟨#[97, 98, 99]⟩, chars ⟨#[97, 98, 100]⟩] := fun i hi => by
  simp at hi
  rw [ch_abc, ch_abd]
  rcases (show i = 0 ∨ i = 1 by omega) with rfl | rfl
  · exact wf_small (by simp [gL])
  · exact wf_small (by simp [gL])
theorem len_each {S : List (List Int)} (hS : ∀ x ∈ S, x.length ≤ 24) (hn : S.Nodup) (h : S.length ≤ 100) (q : List Int) : (eachF S (kidsS S) 25 q).length ≤ 1000 := by
  rw [each_len (kidsS_ok S) hS hn (by omega)]
  exact Nat.le_trans List.countP_le_length (by omega)
/-- What has the beginning goes on as told. -/
theorem more_pre {S : List (List Int)} {q x y : List Int} (h : cntF S (q ++ x) = cntF S q) (hy : y ∈ S) (hq : q <+: y) : q ++ x <+: y := by
  unfold cntF at h
  have := countP_same (P := fun z => decide (q ++ x <+: z)) (Q := fun z => decide (q <+: z)) (fun z _ hz => by
    simp at hz ⊢
    exact (List.prefix_append q x).trans hz) h y hy (by simpa using hq)
  simpa using this
end Go.Proofs.Ytdkjkcegchohfaa
