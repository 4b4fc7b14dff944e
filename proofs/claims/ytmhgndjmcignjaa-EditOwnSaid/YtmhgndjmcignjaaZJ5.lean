/-
  Brackets in plain Lean: what the search for partners keeps, and what follows of it.
-/
import Derived.Test.YtmhgndjmcignjaaZJ1
import Derived.Maps.OwnOps
import Derived.Maps.Views

namespace Go.Proofs.Ytmhgndjmcignjaa

/-- The other bracket; 0: it is none. -/
def othF (c : Int) : Int := if c = 40 then 41 else if c = 91 then 93 else if c = 123 then 125 else if c = 41 then 40 else if c = 93 then 91 else if c = 125 then 123 else 0
/-- Does it close? -/
def cloF (c : Int) : Bool := decide (c = 41 ∨ c = 93 ∨ c = 125)

theorem oth_oth {c : Int} (h : othF c ≠ 0) : othF (othF c) = c := by
  unfold othF at h ⊢
  repeat' split at h
  all_goals first | (subst_vars; rfl) | simp at h
theorem clo_oth {c : Int} (h : othF c ≠ 0) : cloF (othF c) = !cloF c := by
  unfold othF at h ⊢
  unfold cloF
  repeat' split at h
  all_goals first | (subst_vars; rfl) | simp at h
theorem oth_ne {c : Int} (h : othF c ≠ 0) : othF c ≠ c := fun e => by
  have := clo_oth h
  rw [e] at this
  cases hc : cloF c <;> simp [hc] at this
theorem oth_bd (c : Int) : 0 ≤ othF c ∧ othF c ≤ 125 := by
  unfold othF
  repeat' split
  all_goals omega

/-- The stacks, one of each opening bracket, and the partners. -/
abbrev DSt := (Int → List Nat) × (Nat → Int)
def updN (p : Nat → Int) (i : Nat) (v : Int) : Nat → Int := fun x => if x = i then v else p x
def updL (st : Int → List Nat) (c : Int) (v : List Nat) : Int → List Nat := fun x => if x = c then v else st x

def dstep (c : Int) (i : Nat) (s : DSt) : DSt :=
  if othF c = 0 then (s.1, updN s.2 i (-1))
  else if cloF c = false then (updL s.1 c (s.1 c ++ [i]), updN s.2 i (-1))
  else match (s.1 (othF c)).getLast? with
    | none => (s.1, updN s.2 i (-1))
    | some k => (updL s.1 (othF c) (s.1 (othF c)).dropLast, updN (updN s.2 i k) k i)
def drun (l : List Int) : Nat → DSt
  | 0 => (fun _ => [], fun _ => 0)
  | i + 1 => dstep (gI l i) i (drun l i)

theorem dropLast_snoc {l : List Nat} {k : Nat} (h : l.getLast? = some k) : l.dropLast ++ [k] = l := by
  obtain ⟨h1, h2⟩ := List.getLast?_eq_some_iff.1 h
  rw [h2]; simp

/-- What holds behind i characters. -/
structure DI (l : List Int) (i : Nat) (st : Int → List Nat) (p : Nat → Int) : Prop where
  sorted : ∀ c, (st c).Pairwise (· < ·)
  mem : ∀ c, ∀ k ∈ st c, k < i ∧ gI l k = c ∧ othF c ≠ 0 ∧ cloF c = false ∧ p k = -1
  part : ∀ j, j < i → p j = -1 ∨ ∃ m : Nat, p j = m ∧ m < i ∧ p m = j ∧ m ≠ j ∧ othF (gI l j) = gI l m ∧ cloF (gI l j) = decide (m < j) ∧ othF (gI l j) ≠ 0
  apart : ∀ x y : Nat, x < y → y < i → p x = y → ∀ k ∈ st (gI l x), k < x ∨ y < k
  nest : ∀ x y u v : Nat, x < y → y < i → u < v → v < i → p x = y → p u = v → gI l x = gI l u → x < u → u < y → v < y
  none_ : ∀ j, j < i → p j = -1 → othF (gI l j) ≠ 0 → cloF (gI l j) = false → j ∈ st (gI l j)

theorem DI.start (l : List Int) : DI l 0 (drun l 0).1 (drun l 0).2 where
  sorted := fun _ => .nil
  mem := fun _ _ h => by cases h
  part := fun _ h => absurd h (by omega)
  apart := fun _ _ _ h => absurd h (by omega)
  nest := fun _ _ _ _ _ h => absurd h (by omega)
  none_ := fun _ h => absurd h (by omega)

/-- Nothing is matched, nothing is laid. -/
theorem DI.plain {l : List Int} {i : Nat} {st : Int → List Nat} {p : Nat → Int} (h : DI l i st p) (hc : othF (gI l i) = 0 ∨ cloF (gI l i) = true) : DI l (i + 1) st (updN p i (-1)) := by
  have hu : ∀ j, j < i → updN p i (-1) j = p j := fun j hj => if_neg (by omega)
  have hi : updN p i (-1) i = -1 := if_pos rfl
  refine ⟨h.sorted, ?_, ?_, ?_, ?_, ?_⟩
  · intro c k hk
    obtain ⟨h1, h2, h3, h4, h5⟩ := h.mem c k hk
    exact ⟨by omega, h2, h3, h4, by rw [hu k h1]; exact h5⟩
  · intro j hj
    rcases Nat.lt_or_ge j i with h1 | h1
    · show updN p i (-1) j = -1 ∨ _
      rcases h.part j h1 with h2 | ⟨m, h2, h3, h4, h5⟩
      · exact .inl (by rw [hu j h1]; exact h2)
      · exact .inr ⟨m, by rw [hu j h1]; exact h2, by omega, by rw [hu m h3]; exact h4, h5⟩
    · obtain rfl : j = i := by omega
      exact .inl hi
  · intro x y hxy hy hp k hk
    rcases Nat.lt_or_ge y i with h1 | h1
    · exact h.apart x y hxy h1 (by rw [← hu x (by omega)]; exact hp) k hk
    · obtain rfl : y = i := by omega
      have hp' : p x = y := by rw [← hu x hxy]; exact hp
      rcases h.part x hxy with h2 | ⟨m, h2, h3, _⟩
      · rw [h2] at hp'; omega
      · rw [h2] at hp'; omega
  · intro x y u v hxy hy huv hv hp hq he hxu huy
    have hx : x < i := by omega
    have hu' : u < i := by omega
    have hp' : p x = y := by rw [← hu x hx]; exact hp
    have hq' : p u = v := by rw [← hu u hu']; exact hq
    have hy' : y < i := by
      rcases h.part x hx with h2 | ⟨m, h2, h3, _⟩ <;> omega
    have hv' : v < i := by
      rcases h.part u hu' with h2 | ⟨m, h2, h3, _⟩ <;> omega
    exact h.nest x y u v hxy hy' huv hv' hp' hq' he hxu huy
  · intro j hj h1 h2 h3
    rcases Nat.lt_or_ge j i with h4 | h4
    · exact h.none_ j h4 (by rw [← hu j h4]; exact h1) h2 h3
    · obtain rfl : j = i := by omega
      rcases hc with hc | hc
      · exact absurd hc h2
      · rw [hc] at h3; cases h3

/-- An opening bracket. -/
theorem DI.push {l : List Int} {i : Nat} {st : Int → List Nat} {p : Nat → Int} (h : DI l i st p) (ho : othF (gI l i) ≠ 0) (hc : cloF (gI l i) = false) : DI l (i + 1) (updL st (gI l i) (st (gI l i) ++ [i])) (updN p i (-1)) := by
  have hu : ∀ j, j < i → updN p i (-1) j = p j := fun j hj => if_neg (by omega)
  have hi : updN p i (-1) i = -1 := if_pos rfl
  have hmem : ∀ c k, k ∈ updL st (gI l i) (st (gI l i) ++ [i]) c ↔ k ∈ st c ∨ (c = gI l i ∧ k = i) := by
    intro c k
    unfold updL
    by_cases e : c = gI l i
    · subst e; simp
    · simp [e]
  have hlt : ∀ x y : Nat, x < i → p x = y → x < y → y < i := by
    intro x y hx hp hxy
    rcases h.part x hx with h2 | ⟨m, h2, h3, _⟩ <;> omega
  refine ⟨?_, ?_, ?_, ?_, ?_, ?_⟩
  · intro c
    show (updL st (gI l i) (st (gI l i) ++ [i]) c).Pairwise _
    unfold updL
    by_cases e : c = gI l i
    · subst e
      rw [if_pos rfl, List.pairwise_append]
      exact ⟨h.sorted _, by simp, fun a ha b hb => by
        obtain rfl := List.mem_singleton.1 hb
        exact (h.mem _ a ha).1⟩
    · rw [if_neg e]; exact h.sorted c
  · intro c k hk
    rcases (hmem c k).1 hk with h1 | ⟨rfl, rfl⟩
    · obtain ⟨h1, h2, h3, h4, h5⟩ := h.mem c k h1
      exact ⟨by omega, h2, h3, h4, by show updN p i (-1) k = -1; rw [hu k h1]; exact h5⟩
    · exact ⟨by omega, rfl, ho, hc, hi⟩
  · intro j hj
    show updN p i (-1) j = -1 ∨ _
    rcases Nat.lt_or_ge j i with h1 | h1
    · rcases h.part j h1 with h2 | ⟨m, h2, h3, h4, h5⟩
      · exact .inl (by rw [hu j h1]; exact h2)
      · exact .inr ⟨m, by show updN p i (-1) j = m; rw [hu j h1]; exact h2, by omega, by show updN p i (-1) m = j; rw [hu m h3]; exact h4, h5⟩
    · obtain rfl : j = i := by omega
      exact .inl hi
  · intro x y hxy hy hp k hk
    have hx : x < i := by omega
    have hp' : p x = y := by rw [← hu x hx]; exact hp
    have hy' := hlt x y hx hp' hxy
    rcases (hmem _ k).1 hk with h1 | ⟨_, rfl⟩
    · exact h.apart x y hxy hy' hp' k h1
    · exact .inr hy'
  · intro x y u v hxy hy huv hv hp hq he hxu huy
    have hx : x < i := by omega
    have hu' : u < i := by omega
    have hp' : p x = y := by rw [← hu x hx]; exact hp
    have hq' : p u = v := by rw [← hu u hu']; exact hq
    exact h.nest x y u v hxy (hlt x y hx hp' hxy) huv (hlt u v hu' hq' huv) hp' hq' he hxu huy
  · intro j hj h1 h2 h3
    rcases Nat.lt_or_ge j i with h4 | h4
    · exact (hmem _ j).2 (.inl (h.none_ j h4 (by rw [← hu j h4]; exact h1) h2 h3))
    · obtain rfl : j = i := by omega
      exact (hmem _ j).2 (.inr ⟨rfl, rfl⟩)

/-- A closing bracket that has a partner: k, the last one that waits. -/
theorem DI.pop {l : List Int} {i k : Nat} {st : Int → List Nat} {p : Nat → Int} (h : DI l i st p) (ho : othF (gI l i) ≠ 0) (hc : cloF (gI l i) = true) (hk : (st (othF (gI l i))).getLast? = some k) :
    DI l (i + 1) (updL st (othF (gI l i)) (st (othF (gI l i))).dropLast) (updN (updN p i k) k i) ∧ k < i := by
  have hsplit : st (othF (gI l i)) = (st (othF (gI l i))).dropLast ++ [k] := (dropLast_snoc hk).symm
  have hkm : k ∈ st (othF (gI l i)) := by rw [hsplit]; simp
  obtain ⟨hki, hkc, _, hkclo, hkp⟩ := h.mem _ k hkm
  have hlast : ∀ a ∈ (st (othF (gI l i))).dropLast, a < k := by
    have := h.sorted (othF (gI l i))
    rw [hsplit, List.pairwise_append] at this
    intro a ha
    exact this.2.2 a ha k (by simp)
  have hu : ∀ j, j < i → j ≠ k → updN (updN p i k) k i j = p j := fun j hj hne => by
    unfold updN; rw [if_neg hne, if_neg (by omega)]
  have huk : updN (updN p i k) k i k = i := if_pos rfl
  have hui : updN (updN p i k) k i i = k := by unfold updN; rw [if_neg (by omega), if_pos rfl]
  have hnk : ∀ j m : Nat, j < i → p j = m → j ≠ k → m ≠ k := by
    intro j m hj hp hne hmk
    subst hmk
    rcases h.part j hj with h2 | ⟨m', h2, h3, h4, h5⟩
    · omega
    · obtain rfl : m' = m := by omega
      rw [hkp] at h4; omega
  have hmem : ∀ c a, a ∈ updL st (othF (gI l i)) (st (othF (gI l i))).dropLast c → a ∈ st c ∧ a ≠ k := by
    intro c a ha
    unfold updL at ha
    by_cases e : c = othF (gI l i)
    · subst e
      rw [if_pos rfl] at ha
      have h1 := hlast a ha
      exact ⟨by rw [hsplit]; simp [ha], by omega⟩
    · rw [if_neg e] at ha
      refine ⟨ha, fun e2 => e ?_⟩
      subst e2
      rw [← (h.mem c a ha).2.1, hkc]
  refine ⟨⟨?_, ?_, ?_, ?_, ?_, ?_⟩, hki⟩
  · intro c
    show (updL st (othF (gI l i)) (st (othF (gI l i))).dropLast c).Pairwise _
    unfold updL
    by_cases e : c = othF (gI l i)
    · subst e
      rw [if_pos rfl]
      exact (h.sorted _).sublist (List.dropLast_sublist _)
    · rw [if_neg e]; exact h.sorted c
  · intro c a ha
    obtain ⟨h1, h2⟩ := hmem c a ha
    obtain ⟨h3, h4, h5, h6, h7⟩ := h.mem c a h1
    exact ⟨by omega, h4, h5, h6, by show updN (updN p i k) k i a = -1; rw [hu a h3 h2]; exact h7⟩
  · intro j hj
    show updN (updN p i k) k i j = -1 ∨ _
    by_cases hjk : j = k
    · subst hjk
      refine .inr ⟨i, huk, by omega, hui, by omega, ?_, ?_, ?_⟩
      · rw [hkc]; exact oth_oth ho
      · rw [hkc, hkclo]; simp; omega
      · rw [hkc, oth_oth ho]
        intro e
        rw [e] at ho
        exact ho rfl
    · rcases Nat.lt_or_ge j i with h1 | h1
      · rcases h.part j h1 with h2 | ⟨m, h2, h3, h4, h5⟩
        · exact .inl (by rw [hu j h1 hjk]; exact h2)
        · exact .inr ⟨m, by show updN (updN p i k) k i j = m; rw [hu j h1 hjk]; exact h2, by omega, by show updN (updN p i k) k i m = j; rw [hu m h3 (hnk j m h1 h2 hjk)]; exact h4, h5⟩
      · obtain rfl : j = i := by omega
        refine .inr ⟨k, hui, by omega, huk, by omega, hkc.symm, ?_, ho⟩
        rw [hc]; simp; omega
  · intro x y hxy hy hp a ha
    obtain ⟨ha1, ha2⟩ := hmem _ a ha
    by_cases hxk : x = k
    · subst hxk
      left
      have e : gI l x = othF (gI l i) := hkc
      unfold updL at ha
      rw [if_pos e] at ha
      exact hlast a ha
    · have hx : x < i := by omega
      have hp' : p x = y := by rw [← hu x hx hxk]; exact hp
      have hy' : y < i := by
        rcases h.part x hx with h2 | ⟨m, h2, h3, _⟩ <;> omega
      exact h.apart x y hxy hy' hp' a ha1
  · intro x y u v hxy hy huv hv hp hq he hxu huy
    have hx : x < i := by omega
    have hul : u < i := by omega
    by_cases hxk : x = k
    · -- the new pair is the outer one
      subst hxk
      have : y = i := by have := huk; rw [show updN (updN p i x) x i x = y from hp] at this; omega
      subst this
      have hq' : p u = v := by rw [← hu u hul (by omega)]; exact hq
      rcases h.part u hul with h2 | ⟨m, h2, h3, _⟩ <;> omega
    · have hp' : p x = y := by rw [← hu x hx hxk]; exact hp
      have hy' : y < i := by
        rcases h.part x hx with h2 | ⟨m, h2, h3, _⟩ <;> omega
      by_cases huk' : u = k
      · -- the new pair is the inner one: it can't be
        subst huk'
        have := h.apart x y hxy hy' hp' u (by rw [he, hkc]; exact hkm)
        omega
      · have hq' : p u = v := by rw [← hu u hul huk']; exact hq
        have hv' : v < i := by
          rcases h.part u hul with h2 | ⟨m, h2, h3, _⟩ <;> omega
        exact h.nest x y u v hxy hy' huv hv' hp' hq' he hxu huy
  · intro j hj h1 h2 h3
    have hjk : j ≠ k := by
      intro e
      subst e
      rw [show updN (updN p i j) j i j = (-1 : Int) from h1] at huk
      omega
    rcases Nat.lt_or_ge j i with h4 | h4
    · have h5 := h.none_ j h4 (by rw [← hu j h4 hjk]; exact h1) h2 h3
      show j ∈ updL st (othF (gI l i)) (st (othF (gI l i))).dropLast (gI l j)
      unfold updL
      by_cases e : gI l j = othF (gI l i)
      · rw [if_pos e]
        rw [e, hsplit] at h5
        rcases List.mem_append.1 h5 with h6 | h6
        · exact h6
        · exact absurd (List.mem_singleton.1 h6) hjk
      · rw [if_neg e]; exact h5
    · obtain rfl : j = i := by omega
      rw [hc] at h3; cases h3

theorem dstep_plain {c : Int} {i : Nat} {s : DSt} (h : othF c = 0) : dstep c i s = (s.1, updN s.2 i (-1)) := by unfold dstep; rw [if_pos h]
theorem dstep_push {c : Int} {i : Nat} {s : DSt} (h : othF c ≠ 0) (hc : cloF c = false) : dstep c i s = (updL s.1 c (s.1 c ++ [i]), updN s.2 i (-1)) := by unfold dstep; rw [if_neg h, if_pos hc]
theorem dstep_miss {c : Int} {i : Nat} {s : DSt} (h : othF c ≠ 0) (hc : cloF c = true) (he : s.1 (othF c) = []) : dstep c i s = (s.1, updN s.2 i (-1)) := by
  unfold dstep; rw [if_neg h, if_neg (by rw [hc]; simp), he]; rfl
theorem dstep_pop {c : Int} {i k : Nat} {s : DSt} (h : othF c ≠ 0) (hc : cloF c = true) (he : (s.1 (othF c)).getLast? = some k) : dstep c i s = (updL s.1 (othF c) (s.1 (othF c)).dropLast, updN (updN s.2 i k) k i) := by
  unfold dstep; rw [if_neg h, if_neg (by rw [hc]; simp), he]

theorem drun_DI (l : List Int) : ∀ i, DI l i (drun l i).1 (drun l i).2
  | 0 => DI.start l
  | i + 1 => by
    have h := drun_DI l i
    show DI l (i + 1) (dstep (gI l i) i (drun l i)).1 (dstep (gI l i) i (drun l i)).2
    by_cases h1 : othF (gI l i) = 0
    · rw [dstep_plain h1]; exact h.plain (.inl h1)
    · cases hc : cloF (gI l i) with
      | false => rw [dstep_push h1 hc]; exact h.push h1 hc
      | true =>
        cases he : ((drun l i).1 (othF (gI l i))).getLast? with
        | none => rw [dstep_miss h1 hc (List.getLast?_eq_none_iff.1 he)]; exact h.plain (.inr hc)
        | some k => rw [dstep_pop h1 hc he]; exact (h.pop h1 hc he).1

/-- The row of partners behind i characters. -/
def prow (l : List Int) (i : Nat) : List Int := (List.range l.length).map fun j => if j < i then (drun l i).2 j else 0
/-- All partners. -/
def pairsF (l : List Int) : List Int := (List.range l.length).map fun j => (drun l l.length).2 j
theorem prow_len (l : List Int) (i : Nat) : (prow l i).length = l.length := by simp [prow]
theorem pairsF_len (l : List Int) : (pairsF l).length = l.length := by simp [pairsF]
theorem prow_end (l : List Int) : prow l l.length = pairsF l := by
  apply List.ext_getElem
  · simp [prow, pairsF]
  · intro j h1 h2
    simp [prow] at h1
    simp [prow, pairsF, h1]
theorem prow_start (l : List Int) : prow l 0 = List.replicate l.length 0 := by
  apply List.ext_getElem
  · simp [prow]
  · intro j h1 h2; simp [prow]
theorem prow_plain {l : List Int} {i : Nat} (h : (drun l (i + 1)).2 = updN (drun l i).2 i (-1)) : prow l (i + 1) = (prow l i).set i (-1) := by
  apply List.ext_getElem
  · simp [prow]
  · intro j h1 h2
    rw [List.getElem_set]
    simp [prow, h, updN]
    by_cases e : i = j
    · subst e; simp
    · rw [if_neg e]
      by_cases h3 : j < i
      · rw [if_pos (by omega), if_pos h3, if_neg (by omega)]
      · rw [if_neg (by omega), if_neg h3]
theorem prow_pop {l : List Int} {i k : Nat} (hk : k < i) (h : (drun l (i + 1)).2 = updN (updN (drun l i).2 i k) k i) : prow l (i + 1) = (((prow l i).set i (-1)).set i k).set k i := by
  apply List.ext_getElem
  · simp [prow]
  · intro j h1 h2
    rw [List.getElem_set, List.getElem_set, List.getElem_set]
    simp [prow, h, updN]
    by_cases e : k = j
    · subst e; simp; omega
    · rw [if_neg e]
      by_cases e2 : i = j
      · subst e2; simp; omega
      · rw [if_neg e2]
        by_cases h3 : j < i
        · rw [if_pos (by omega), if_pos h3, if_neg (by omega), if_neg (by omega), if_neg e2]
        · rw [if_neg (by omega), if_neg h3, if_neg e2]
theorem pairsF_at {l : List Int} {j : Nat} (h : j < l.length) : gI (pairsF l) j = (drun l l.length).2 j := by simp [gI, pairsF, h]
end Go.Proofs.Ytmhgndjmcignjaa

namespace Go.Proofs.Ytmhgndjmcignjaa
set_option linter.unusedVariables false
set_option linter.unusedSimpArgs false

def foundP (l : List Int) (k i m : Nat) : Prop := k ≤ i ∧ i < l.length ∧ othF (gI l i) ≠ 0 ∧ (∀ j, k ≤ j → j < i → othF (gI l j) = 0) ∧ gI (pairsF l) i = (m : Int) ∧ m < l.length
def noP (l : List Int) (k : Nat) : Prop := ∀ i, k ≤ i → i < l.length → othF (gI l i) ≠ 0 → (∀ j, k ≤ j → j < i → othF (gI l j) = 0) → gI (pairsF l) i < 0
theorem foundP_one {l : List Int} {k i m i' m' : Nat} (h : foundP l k i m) (h' : foundP l k i' m') : i = i' ∧ m = m' := by
  obtain ⟨h1, h2, h3, h4, h5, h6⟩ := h
  obtain ⟨g1, g2, g3, g4, g5, g6⟩ := h'
  have e : i = i' := by
    rcases Nat.lt_trichotomy i i' with h | h | h
    · exact absurd (g4 i h1 h) h3
    · exact h
    · exact absurd (h4 i' g1 h) g3
  subst e
  exact ⟨rfl, by omega⟩
theorem foundP_no {l : List Int} {k i m : Nat} (h : foundP l k i m) : ¬ noP l k := fun h' => by
  obtain ⟨h1, h2, h3, h4, h5, h6⟩ := h
  have := h' i h1 h2 h3 h4
  omega
end Go.Proofs.Ytmhgndjmcignjaa

namespace Go.Proofs.Ytmhgndjmcignjaa
open Go.RowKit Go.Maps
set_option linter.unusedVariables false
set_option linter.unusedSimpArgs false

theorem key_intV : Keyed Try.prog 3 := int_keyed Try.underlying3
/-- An element reads as itself. -/
def itself (v : Value) : Option (DataW Value × List MemPlace) := some (.held v, [])

/-- Block b is a map of at most n entries that answers f; z where there is none. -/
def MapV (w : World) (z : Value) (b n : Nat) (f : Int → Value) : Prop :=
  ∃ D : DataW Value, w.ownsMap Try.prog 3 itself b n D ∧ IsMap D ∧ ∀ k, (Lit.int .i64 k).wf = true → D.atKey (.int .i64 k) (.held z) = .held (f k)

def updV (f : Int → Value) (k : Int) (v : Value) : Int → Value := fun x => if x = k then v else f x
theorem updV_same (f : Int → Value) (k : Int) (v : Value) : updV f k v k = v := if_pos rfl
theorem updV_other (f : Int → Value) {k x : Int} (v : Value) (h : x ≠ k) : updV f k v x = f x := if_neg h

section
variable {w w' : World} {z : Value} {b n : Nat} {f : Int → Value}
theorem MapV.made (w : World) (z : Value) : MapV (w.alloc (.map #[] 0)) z w.heap.size 0 (fun _ => z) :=
  ⟨.map [], World.ownsMap_made w _ _ _, ⟨[], rfl⟩, fun _ _ => rfl⟩
theorem MapV.ext (h : MapV w z b n f) (he : Ext w w') : MapV w' z b n f := by
  obtain ⟨D, h1, h2, h3⟩ := h
  obtain ⟨es, clock, hb, r⟩ := h1
  exact ⟨D, ⟨es, clock, (Below.block he b (Array.getElem?_eq_some_iff.1 hb).1).trans hb, r⟩, h2, h3⟩
/-- While one row of cells is written. -/
theorem MapV.grown (h : MapV w z b n f) {row : Option Nat} (hg : w.grownBy w' row) (hr : some b ≠ row) : MapV w' z b n f := by
  obtain ⟨D, h1, h2, h3⟩ := h
  exact ⟨D, h1.kept hg hr, h2, h3⟩
theorem MapV.setCell (h : MapV w z b n f) {p : Addr} (hp : p.block ≠ b) (u : Value) : MapV (w.setCell p u) z b n f := by
  obtain ⟨D, h1, h2, h3⟩ := h
  obtain ⟨es, clock, hb, r⟩ := h1
  exact ⟨D, ⟨es, clock, (Below.heap_setCell w p u b (fun e => hp e.symm)).trans hb, r⟩, h2, h3⟩
theorem MapV.lt (h : MapV w z b n f) : b < w.heap.size := by obtain ⟨D, h1, _⟩ := h; exact h1.lt
theorem MapV.block (h : MapV w z b n f) : ∃ es clock, w.heap[b]? = some (.map es clock) := by
  obtain ⟨D, ⟨es, clock, hb, _⟩, _⟩ := h
  exact ⟨es, clock, hb⟩
/-- A row of the call's own is no map. -/
theorem MapV.ne_own (h : MapV w z b n f) {base e y k c : Nat} {A : Option Addr} {xs : List Value} (ho : Own w base e y A k c xs) : some b ≠ (Value.slice A k c).ownBlock := by
  obtain ⟨es, clock, hb⟩ := h.block
  rcases ho.2 with ⟨hv, _⟩ | ⟨g, cap, cur, hv, _, hg, _⟩
  · rw [hv]; simp [Value.ownBlock]
  · rw [hv]
    intro e
    simp [Value.ownBlock] at e
    subst e
    rw [hb] at hg
    cases hg
theorem MapV.get (h : MapV w z b n f) {t e : Nat} (ht : Try.prog.underlying t = some (.map 3 e)) (hz : (zeroValue e).run Try.prog w = .ok z w) {k : Int} (hk : (Lit.int .i64 k).wf = true) :
    (Instr.lookup t (.map (some b)) (.int .i64 k) false).run Try.prog w = .ok (f k) w := by
  obtain ⟨D, h1, h2, h3⟩ := h
  obtain ⟨v, ps, hrun, hv⟩ := h1.lookup key_intV ht hz (show itself z = some (.held z, []) from rfl) (keyOf_int_mk Try.underlying3 hk)
  rw [h3 k hk] at hv
  simp only [itself, Option.some.injEq, Prod.mk.injEq, DataW.held.injEq] at hv
  rw [hrun, hv.1]
theorem MapV.put {w0 : World} (h : MapV w z b n f) {t e : Nat} (ht : Try.prog.underlying t = some (.map 3 e)) (hn : n < maxLen) (k : Int) (v : Value)
    (hk : (Lit.int .i64 k).wf = true) (he : Ext w0 w) (hb : w0.heap.size ≤ b) :
    ∃ w', (Instr.mapUpdate t (.map (some b)) (.int .i64 k) v).run Try.prog w = .ok () w' ∧ MapV w' z b (n + 1) (updV f k v) ∧ w.grownBy w' (some b) ∧ Ext w0 w' := by
  obtain ⟨D, h1, h2, h3⟩ := h
  obtain ⟨w', hrun, k1, k2⟩ := h1.update key_intV ht hn (keyOf_int_mk Try.underlying3 hk) (show itself v = some (.held v, []) from rfl)
  refine ⟨w', hrun, ⟨_, k1, h2.put _ _, fun x hx => ?_⟩, k2, Below.grown he k2 he.size (fun j hj => by injection hj with hj; omega)⟩
  unfold updV
  by_cases e : x = k
  · subst e
    rw [if_pos rfl, atKey_put_same h2 (show WideAt.IsKeyLit (.int .i64 x) from trivial)]
  · rw [if_neg e, atKey_put_other (by intro h; injection h with _ h; exact e h), h3 x hx]
end
theorem wf_i64' {x : Int} (h1 : -9223372036854775808 ≤ x) (h2 : x ≤ 9223372036854775807) : (Lit.int .i64 x).wf = true := by
  simp [Lit.wf, IntKind.min, IntKind.max, IntKind.signed, IntKind.bits]; omega
end Go.Proofs.Ytmhgndjmcignjaa

namespace Go.Proofs.Ytmhgndjmcignjaa
open Go.RowKit
set_option linter.unusedVariables false
set_option linter.unusedSimpArgs false

theorem ret_tup2 {u u' v v' : Value} (h1 : u = u') (h2 : v = v') : Ending.returned (.tuple #[u, v]) = .returned (.tuple #[u', v']) := by rw [h1, h2]
theorem num_eq {a b : Int} (h : a = b) : Value.int .i64 a = .int .i64 b := by rw [h]
theorem boo_eq {a b : Bool} (h : a = b) : Value.bool a = .bool b := by rw [h]

set_option maxRecDepth 20000 in
set_option maxHeartbeats 1000000 in
theorem other_ok (c : Int) (w : World) : Calls Try.prog 70 #[.int .i64 c] w fun e w' => e = .returned (.tuple #[.int .i64 (othF c), .bool (cloF c)]) ∧ w = w' := by
  by_cases h1 : c = 40
  · subst h1
    go_enter Try.func70, Try.ntmps70
    go_wp2_with fail
    go_ret2
    exact ⟨rfl, rfl⟩
  by_cases h2 : c = 91
  · subst h2
    go_enter Try.func70, Try.ntmps70
    go_wp2_with fail
    go_ret2
    exact ⟨rfl, rfl⟩
  by_cases h3 : c = 123
  · subst h3
    go_enter Try.func70, Try.ntmps70
    go_wp2_with fail
    go_ret2
    exact ⟨rfl, rfl⟩
  by_cases h4 : c = 41
  · subst h4
    go_enter Try.func70, Try.ntmps70
    go_wp2_with fail
    go_ret2
    exact ⟨rfl, rfl⟩
  by_cases h5 : c = 93
  · subst h5
    go_enter Try.func70, Try.ntmps70
    go_wp2_with fail
    go_ret2
    exact ⟨rfl, rfl⟩
  by_cases h6 : c = 125
  · subst h6
    go_enter Try.func70, Try.ntmps70
    go_wp2_with fail
    go_ret2
    exact ⟨rfl, rfl⟩
  have k1 : (c == 40) = false := by simpa using h1
  have k2 : (c == 91) = false := by simpa using h2
  have k3 : (c == 123) = false := by simpa using h3
  have k4 : (c == 41) = false := by simpa using h4
  have k5 : (c == 93) = false := by simpa using h5
  have k6 : (c == 125) = false := by simpa using h6
  have e1 : Hid (othF c = 0) := by show othF c = 0; unfold othF; simp [h1, h2, h3, h4, h5, h6]
  have e2 : Hid (cloF c = false) := by show cloF c = false; unfold cloF; simp [h4, h5, h6]
  clear h1 h2 h3 h4 h5 h6
  go_enter Try.func70, Try.ntmps70
  go_wp2_with fail
  go_ret2
  exact ⟨ret_tup2 (num_eq e1.out.symm) (boo_eq e2.out.symm), rfl⟩

theorem kind_ok (c : Int) (w : World) : Calls Try.prog 73 #[.int .i64 c] w fun e w' => e = .returned (.tuple #[.int .i64 (othF c), .bool (cloF c)]) ∧ w = w' := by
  go_enter Try.func73, Try.ntmps73
  go_wp2_with fail
  refine (other_ok _ _).mono ?_
  rintro e w1 ⟨rfl, rfl⟩
  go_wp2_with fail
  go_ret2
  exact ⟨rfl, rfl⟩

/-- A list of places as numbers. -/
def nums (l : List Nat) : List Int := l.map fun x : Nat => (x : Int)
theorem nums_len (l : List Nat) : (nums l).length = l.length := by simp [nums]

theorem sorted_len : ∀ {s : List Nat} {j : Nat}, s.Pairwise (· < ·) → (∀ x ∈ s, x < j) → s.length ≤ j
  | [], _, _, _ => Nat.zero_le _
  | x :: s, j, h, hj => by
    have h1 := List.pairwise_cons.1 h
    have h2 : (s.map (· - (x + 1))).length ≤ j - (x + 1) := by
      rw [List.length_map]
      have := @sorted_len (s.map (· - (x + 1))) (j - (x + 1)) (by
        rw [List.pairwise_map]
        refine List.Pairwise.imp_of_mem ?_ h1.2
        intro a b ha hb hab
        have := h1.1 a ha
        omega) (by
        intro y hy
        obtain ⟨z, hz, rfl⟩ := List.mem_map.1 hy
        have := h1.1 z hz
        have := hj z (by simp [hz])
        omega)
      rwa [List.length_map] at this
    rw [List.length_map] at h2
    have := hj x (by simp)
    simp only [List.length_cons]
    omega
  termination_by s => s.length
  decreasing_by simp

/-- The stacks in memory: a map b of rows that lie from block B on. -/
def StkW (w : World) (B b cnt : Nat) (st : Int → List Nat) : Prop :=
  ∃ f, MapV w (.slice none 0 0) b cnt f ∧ (∀ c, ∃ A k cap, f c = .slice A k cap ∧ OwnI w B A k cap (nums (st c))) ∧ (∀ c c', c ≠ c' → (f c).ownBlock = none ∨ (f c).ownBlock ≠ (f c').ownBlock)

theorem StkW.start (w : World) (B : Nat) : StkW (w.alloc (.map #[] 0)) B w.heap.size 0 (fun _ => []) :=
  ⟨_, MapV.made w _, fun c => ⟨none, 0, 0, rfl, OwnI.nil _ _⟩, fun c c' _ => .inl rfl⟩
theorem StkW.setCell {w : World} {B b cnt : Nat} {st : Int → List Nat} (h : StkW w B b cnt st) {p : Addr} (hb : p.block ≠ b) (hB : p.block < B) (u : Value) : StkW (w.setCell p u) B b cnt st := by
  obtain ⟨f, h1, h2, h3⟩ := h
  refine ⟨f, h1.setCell hb u, fun c => ?_, h3⟩
  obtain ⟨A, k, cap, e, ho⟩ := h2 c
  exact ⟨A, k, cap, e, Own.setCell ho hB u⟩

/-- Behind a push, or a pop, of the stack c: the row lies where it lay, or anew; the map has it. -/
theorem StkW.turned {w w2 w3 : World} {B b cnt : Nat} {st : Int → List Nat} {f : Int → Value} {c : Int} {A A' : Option Addr} {k cap k' cap' : Nat} {v : List Nat}
    (h1 : MapV w (.slice none 0 0) b cnt f) (h2 : ∀ c, ∃ A k cap, f c = .slice A k cap ∧ OwnI w B A k cap (nums (st c))) (h3 : ∀ c c', c ≠ c' → (f c).ownBlock = none ∨ (f c).ownBlock ≠ (f c').ownBlock)
    (hf : f c = .slice A k cap) (hnew : OwnI w2 B A' k' cap' (nums v)) (hg : w.grownBy w2 (Value.slice A k cap).ownBlock)
    (hat : (Value.slice A' k' cap').ownBlock = (Value.slice A k cap).ownBlock ∨ ∃ g, w.heap.size ≤ g ∧ (Value.slice A' k' cap').ownBlock = some g)
    (hm : MapV w3 (.slice none 0 0) b (cnt + 1) (updV f c (.slice A' k' cap'))) (hm2 : MapV w2 (.slice none 0 0) b cnt f) (hg3 : w2.grownBy w3 (some b)) : StkW w3 B b (cnt + 1) (updL st c v) := by
  have keep : ∀ {A k cap} {l : List Int}, OwnI w2 B A k cap l → OwnI w3 B A k cap l := fun {A k cap l} ho =>
    Own.kept ho hg3 (.inr fun e => hm2.ne_own ho e.symm)
  refine ⟨_, hm, fun x => ?_, fun x y hxy => ?_⟩
  · by_cases e : x = c
    · subst e
      exact ⟨A', k', cap', updV_same _ _ _, by unfold updL; rw [if_pos rfl]; exact keep hnew⟩
    · obtain ⟨Ax, kx, cx, ex, hx⟩ := h2 x
      refine ⟨Ax, kx, cx, (updV_other _ _ e).trans ex, ?_⟩
      unfold updL
      rw [if_neg e]
      refine keep (Own.kept hx hg ?_)
      have := h3 x c e
      rw [ex, hf] at this
      exact this
  · have old : ∀ z, z ≠ c → (updV f c (.slice A' k' cap') z).ownBlock = none ∨ (updV f c (.slice A' k' cap') z).ownBlock ≠ (Value.slice A' k' cap').ownBlock := by
      intro z hz
      rw [updV_other _ _ hz]
      obtain ⟨Az, kz, cz, ez, hoz⟩ := h2 z
      rcases hat with ha | ⟨g, hg1, ha⟩
      · rw [ha]
        have := h3 z c hz
        rwa [hf] at this
      · right
        rw [ha, ez]
        intro e
        have := (Own.blk hoz g e).2
        omega
    by_cases e : x = c
    · subst e
      rw [updV_same]
      have hy := old y (fun e => hxy e.symm)
      rcases hy with hy | hy
      · rw [hy]
        cases (Value.slice A' k' cap').ownBlock with
        | none => exact .inl rfl
        | some g => exact .inr (by simp)
      · exact .inr (fun e => hy e.symm)
    · by_cases e2 : y = c
      · subst e2
        rw [updV_same]
        exact old x e
      · rw [updV_other _ _ e, updV_other _ _ e2]
        exact h3 x y hxy

theorem nil_zero (w : World) : (zeroValue 22).run Try.prog w = .ok (.slice none 0 0) w := by kernel_rfl

set_option maxRecDepth 20000 in
set_option maxHeartbeats 4000000 in
theorem pairs_ok {l : List Int} {A : Option Addr} {n c : Nat} {w : World} (hl : Ints w A n c l) (wl : ∀ x ∈ l, (Lit.int .i64 x).wf = true) (hn : n ≤ 4096) :
    Calls Try.prog 59 #[.slice A n c] w fun e w' => ∃ g, e = .returned (.tuple #[.slice (some ⟨g, 0, none⟩) n n, .int .i64 0]) ∧ Blk w' g 3 ((pairsF l).map (Value.int .i64)).toArray ∧ w.heap.size ≤ g ∧ Ext w w' := by
  obtain ⟨i0, hi, hz0, hz1, hz2⟩ := info_parts info_int
  have hmm := @run_makeMap Try.prog
  have hlen := Lib.hid hl.len
  have hmk : ∀ u : World, (Instr.makeSlice 22 (.int .i64 (n : Int)) (.int .i64 (n : Int))).run Try.prog u =
      .ok (.slice (some ⟨u.heap.size, 0, none⟩) n n) (u.alloc (.cells (madeCells #[.int .i64 0] n) 3)) := fun u => by
    have h := run_make (P := Try.prog) u 22 3 i0 (.int .i64 0) Try.underlying22 hi hz0 .i64 .i64 (n : Int) (n : Int) (by omega) (Int.le_refl _) (by rw [hz2]; omega) (by omega)
    simpa [hz1, Value.cells] using h
  have ws := (Ext.alloc w (.cells (madeCells #[.int .i64 0] n) 3)).hsize
  go_enter Try.func59, Try.ntmps59
  go_wp2_with fail
  go_loopw [20] (fun i wr => ∃ (j cnt : Nat), j ≤ n ∧ cnt ≤ j ∧ i = .int .i64 j ∧ Blk wr w.heap.size 3 ((prow l j).map (Value.int .i64)).toArray ∧ StkW wr (w.heap.size + 2) (w.heap.size + 1) cnt (drun l j).1 ∧ Ext w wr) (fun i _ => n - (intOf i).toNat)
  case atStart =>
    refine ⟨0, 0, by omega, by omega, rfl, ?_, ?_, (Ext.alloc _ _).to_alloc _⟩
    · refine Blk.ext ?_ (Ext.alloc _ _)
      rw [prow_start, hlen.out, ← made_ints]
      exact Blk.new _ _ _
    · have := StkW.start (w.alloc (.cells (madeCells #[.int .i64 0] n) 3)) (w.heap.size + 2)
      have e0 : (drun l 0).1 = fun _ => [] := rfl
      rw [e0]
      simpa using this
  case round =>
    obtain ⟨j, cnt, hj, hcnt, rfl, hb, hst, he⟩ := hrel
    by_cases hlt : j < n
    · obtain ⟨ad, rfl, hc⟩ := hl.at_ hlt
      have cj := he.cell (hc j hlt)
      have c1 := blk_cell hb (k := j) (by rw [prow_len, hlen.out]; exact hlt)
      have f1 := hb.frozen j
      clear hc
      go_wp2_with fail
      refine (other_ok _ _).mono ?_
      rintro e w2 ⟨rfl, hw2⟩
      have hb2 : Blk w2 w.heap.size 3 (((prow l j).set j (-1)).map (Value.int .i64)).toArray := by rw [← hw2]; exact blk_store hb j (-1)
      have hst2 : StkW w2 (w.heap.size + 2) (w.heap.size + 1) cnt (drun l j).1 := by
        rw [← hw2]; exact hst.setCell (by show w.heap.size ≠ _; omega) (by show w.heap.size < _; omega) _
      have he2 : Ext w w2 := by rw [← hw2]; exact he.setCell (Nat.le_refl _) _
      clear hw2 hb hst he cj c1 f1
      have hwf : (Lit.int .i64 (gI l j)).wf = true := wl _ (by
        have : j < l.length := by rw [hlen.out]; exact hlt
        simp [gI, this])
      have hDI := drun_DI l j
      have hs1 : drun l (j + 1) = dstep (gI l j) j (drun l j) := rfl
      by_cases ho : othF (gI l j) = 0
      · have e1 : (othF (gI l j) == 0) = true := by simpa using ho
        have hs : drun l (j + 1) = ((drun l j).1, updN (drun l j).2 j (-1)) := by rw [hs1, dstep_plain ho]
        have hb3 : Blk w2 w.heap.size 3 ((prow l (j + 1)).map (Value.int .i64)).toArray := by rw [prow_plain (by rw [hs])]; exact hb2
        have hst3 : StkW w2 (w.heap.size + 2) (w.heap.size + 1) cnt (drun l (j + 1)).1 := by rw [hs]; exact hst2
        clear hs hs1 hDI ho hb2 hst2
        go_wp2_with fail
        go_roundw
        case rel => exact ⟨j + 1, cnt, by omega, by omega, by go_num, hb3, hst3, he2⟩
        case measure => simp [intOf]; omega
      have e1 : (othF (gI l j) == 0) = false := by simpa using ho
      cases hclo : cloF (gI l j) with
      | false =>
        have hs : drun l (j + 1) = (updL (drun l j).1 (gI l j) ((drun l j).1 (gI l j) ++ [j]), updN (drun l j).2 j (-1)) := by rw [hs1, dstep_push ho hclo]
        have hb3 : ∀ w3, Blk w3 w.heap.size 3 (((prow l j).set j (-1)).map (Value.int .i64)).toArray → Blk w3 w.heap.size 3 ((prow l (j + 1)).map (Value.int .i64)).toArray := fun w3 h => by rw [prow_plain (by rw [hs])]; exact h
        have HB3 := Lib.hid hb3
        obtain ⟨f, m1, m2, m3⟩ := hst2
        obtain ⟨C, k, cap, ef, hown⟩ := m2 (gI l j)
        have hget := m1.get Try.underlying125 (nil_zero w2) hwf
        rw [ef] at hget
        have hkl : k ≤ j := by
          have h1 := hown.ints.len
          have h2 := hDI.mem (gI l j)
          have h3 := hDI.sorted (gI l j)
          rw [nums_len] at h1
          rw [← h1]
          exact sorted_len h3 (fun x hx => (h2 x hx).1)
        have HS := Lib.hid hs
        clear hs hs1 hDI ho hb3
        go_wp2_with (at_builtin; refine wpList_push rfl (.tmp 43) (.tmp 45) 22 rfl w (w.heap.size + 2) 3 i0 (.int .i64 0) 1 8 Try.underlying22 hi hz0 hz1 hz2 rfl (by decide) C k cap _ rfl hown _ rfl ?_ rfl ?_ ?_ he2 (by omega) ?_ ?_)
        · rfl
        · unfold maxLen; omega
        · omega
        · have := hb2.lt
          have := m1.lt
          omega
        · intro C' cap' w3 hown' hgr hat he3
          have hown3 : OwnI w3 (w.heap.size + 2) C' (k + 1) cap' (nums ((drun l j).1 (gI l j) ++ [j])) := by
            simpa [OwnI, nums] using hown'
          have m13 := m1.grown hgr (m1.ne_own hown)
          have hb4 : Blk w3 w.heap.size 3 (((prow l j).set j (-1)).map (Value.int .i64)).toArray := hb2.grown hgr (fun e => by
            have := (Own.blk hown _ e.symm).1
            omega)
          obtain ⟨w4, hrun, m14, hg4, he4⟩ := m13.put Try.underlying125 (by unfold maxLen; omega) (gI l j) (.slice C' (k + 1) cap') hwf he3 (by omega)
          have hst4 := StkW.turned (c := gI l j) m1 m2 m3 ef hown3 hgr hat m14 m13 hg4
          have hb5 := HB3.out _ (hb4.grown hg4 (by simp))
          have hst5 : StkW w4 (w.heap.size + 2) (w.heap.size + 1) (cnt + 1) (drun l (j + 1)).1 := by rw [HS.out]; exact hst4
          clear hget m1 m2 m3 ef hown hown' hgr hat hown3 m13 m14 hg4 hst4 hb2 hb4 he2 he3
          go_wp2_with fail
          go_roundw
          case rel => exact ⟨j + 1, cnt + 1, by omega, by omega, by go_num, hb5, hst5, he4⟩
          case measure => simp [intOf]; omega
      | true =>
        have hob := oth_bd (gI l j)
        have hwo : (Lit.int .i64 (othF (gI l j))).wf = true := wf_i64' (by omega) (by omega)
        cases hlast : ((drun l j).1 (othF (gI l j))).getLast? with
        | none =>
          have hnil := List.getLast?_eq_none_iff.1 hlast
          have hs : drun l (j + 1) = ((drun l j).1, updN (drun l j).2 j (-1)) := by rw [hs1, dstep_miss ho hclo hnil]
          have hb3 : Blk w2 w.heap.size 3 ((prow l (j + 1)).map (Value.int .i64)).toArray := by rw [prow_plain (by rw [hs])]; exact hb2
          have hst3 : StkW w2 (w.heap.size + 2) (w.heap.size + 1) cnt (drun l (j + 1)).1 := by rw [hs]; exact hst2
          obtain ⟨f, m1, m2, m3⟩ := hst2
          obtain ⟨C, k, cap, ef, hown⟩ := m2 (othF (gI l j))
          have hget := m1.get Try.underlying125 (nil_zero w2) hwo
          rw [ef] at hget
          have hk0 : k = 0 := by
            have := hown.ints.len
            rw [hnil, nums_len] at this
            simpa using this.symm
          subst hk0
          clear hs hs1 hDI ho hb2 hnil hlast m1 m2 m3 ef hown
          go_wp2_with fail
          go_roundw
          case rel => exact ⟨j + 1, cnt, by omega, by omega, by go_num, hb3, hst3, he2⟩
          case measure => simp [intOf]; omega
        | some kk =>
          have hs : drun l (j + 1) = (updL (drun l j).1 (othF (gI l j)) ((drun l j).1 (othF (gI l j))).dropLast, updN (updN (drun l j).2 j kk) kk j) := by rw [hs1, dstep_pop ho hclo hlast]
          have hkj := (hDI.pop ho hclo hlast).2
          obtain ⟨f, m1, m2, m3⟩ := hst2
          obtain ⟨C, k, cap, ef, hown⟩ := m2 (othF (gI l j))
          have hget := m1.get Try.underlying125 (nil_zero w2) hwo
          rw [ef] at hget
          have hklen : ((drun l j).1 (othF (gI l j))).length = k := by have := hown.ints.len; rwa [nums_len] at this
          have hsplit := dropLast_snoc hlast
          have hk0 : 0 < k := by rw [← hklen, ← hsplit]; simp
          have hkl : k ≤ 4096 := by
            have h3 := sorted_len (hDI.sorted (othF (gI l j))) (fun x hx => (hDI.mem _ x hx).1)
            omega
          obtain ⟨ca, rfl, hcell⟩ := hown.ints.at_ hk0
          have hkcap := hown.ints.ncap
          have cl : w2.cell? (ca.add (k - 1)) = some (.int .i64 kk) := by
            rw [hcell (k - 1) (by omega)]
            have e1 : k - 1 = ((drun l j).1 (othF (gI l j))).dropLast.length := by rw [List.length_dropLast, hklen]
            have e2 : gI (nums ((drun l j).1 (othF (gI l j)))) (k - 1) = kk := by
              rw [← hsplit, e1]
              unfold nums gI
              simp
            rw [e2]
          obtain ⟨w3, hrun, m13, hg3, he3⟩ := m1.put Try.underlying125 (by unfold maxLen; omega) (othF (gI l j)) (.slice (some ca) (k - 1) cap) hwo he2 (by omega)
          have hown2 : OwnI w2 (w.heap.size + 2) (some ca) (k - 1) cap (nums ((drun l j).1 (othF (gI l j))).dropLast) := by
            have h1 := Own.pop hown (k := k - 1) (by omega) hk0
            have e3 : nums ((drun l j).1 (othF (gI l j))).dropLast = (nums ((drun l j).1 (othF (gI l j)))).take (k - 1) := by
              unfold nums
              rw [← List.map_take, List.dropLast_eq_take, hklen]
            unfold OwnI
            rw [e3, List.map_take]
            exact h1
          have hst4 := StkW.turned (c := othF (gI l j)) m1 m2 m3 ef hown2 (World.grownBy.refl w2 _) (.inl rfl) m13 m1 hg3
          have hb3 := hb2.grown hg3 (by simp)
          have x1 := blk_cell hb3 (k := j) (by rw [List.length_set, prow_len, hlen.out]; exact hlt)
          have f1 := hb3.frozen j
          have hb4 := blk_store hb3 j kk
          have x2 := blk_cell hb3 (k := kk) (by rw [List.length_set, prow_len, hlen.out]; omega)
          have f2 := hb3.frozen kk
          have hb5 := blk_store hb4 kk j
          rw [← prow_pop hkj (by rw [hs])] at hb5
          have hst5 : StkW ((w3.setCell ⟨w.heap.size, j, none⟩ (.int .i64 kk)).setCell ⟨w.heap.size, kk, none⟩ (.int .i64 j)) (w.heap.size + 2) (w.heap.size + 1) (cnt + 1) (drun l (j + 1)).1 := by
            rw [hs]
            exact (hst4.setCell (by show w.heap.size ≠ _; omega) (by show w.heap.size < _; omega) _).setCell (by show w.heap.size ≠ _; omega) (by show w.heap.size < _; omega) _
          have he5 := (he3.setCell (p := ⟨w.heap.size, j, none⟩) (Nat.le_refl _) (.int .i64 kk)).setCell (p := ⟨w.heap.size, kk, none⟩) (Nat.le_refl _) (.int .i64 j)
          have hne : ¬ kk = j := by omega
          have hne2 : ¬ j = kk := by omega
          clear hs hs1 hDI ho hb2 hlast m1 m2 m3 m13 ef hown hown2 hst4 hb3 hb4 hcell hsplit hklen hg3
          go_wp2_with fail
          go_roundw
          case rel => exact ⟨j + 1, cnt + 1, by omega, by omega, by go_num, hb5, hst5, he5⟩
          case measure => simp [intOf]; omega
    · obtain rfl : j = n := by omega
      go_wp2_with fail
      go_ret2
      exact ⟨_, rfl, by rw [← prow_end, hlen.out]; exact hb, Nat.le_refl _, he⟩
theorem pairs_ints {l : List Int} {A : Option Addr} {n c : Nat} {w : World} (hl : Ints w A n c l) (wl : ∀ x ∈ l, (Lit.int .i64 x).wf = true) (hn : n ≤ 4096) :
    Calls Try.prog 59 #[.slice A n c] w fun e w' => ∃ B, e = .returned (.tuple #[.slice B n n, .int .i64 0]) ∧ Ints w' B n n (pairsF l) ∧ Ext w w' :=
  (pairs_ok hl wl hn).mono fun e w' ⟨g, h1, h2, h3, h4⟩ => ⟨_, h1, h2.ints (by rw [pairsF_len, hl.len]) (by unfold maxLen; omega), h4⟩

set_option maxRecDepth 20000 in
set_option maxHeartbeats 400000 in
theorem pairs_large {A : Option Addr} {n c : Nat} {w : World} (hn : 4096 < n) (hm : n ≤ maxLen) :
    Calls Try.prog 59 #[.slice A n c] w fun e w' => e = .returned (.tuple #[.slice none 0 0, .int .i64 2]) ∧ w = w' := by
  unfold maxLen at hm
  go_enter Try.func59, Try.ntmps59
  go_wp2_with fail
  go_ret2
  exact ⟨rfl, rfl⟩
theorem chars_wf (s : ByteArray) : ∀ x ∈ chars s, (Lit.int .i64 x).wf = true := by
  intro x hx
  unfold chars at hx
  obtain ⟨b, _, rfl⟩ := List.mem_map.1 hx
  have := b.toNat_lt
  exact wf_i64' (by omega) (by omega)
end Go.Proofs.Ytmhgndjmcignjaa
