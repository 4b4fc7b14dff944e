/-
  Brackets in plain Lean: what the search for partners keeps, and what follows of it.
-/
import Derived.Test.YtkjlgfokgpdliaaBase
namespace Go.Proofs.Ytkjlgfokgpdliaa

/-- The other bracket; 0: it is none. -/
def othF (c : Int) : Int := if c = 40 then 41 else if c = 91 then 93 else if c = 123 then 125 else if c = 41 then 40 else if c = 93 then 91 else if c = 125 then 123 else 0
/-- Does it close? -/
def cloF (c : Int) : Bool := decide (c = 41 ∨ c = 93 ∨ c = 125)

theorem oth_oth {c : Int} (h : othF c ≠ 0) : othF (othF c) = c := by
  unfold othF at h ⊢
  repeat' split at h
  all_goals first | (subst_vars; rfl) | simp at h
theorem clo_oth {c : Int} (h : othF c ≠ 0) : cloF (othF c) = !cloF c := by
  unfold othF at h ⊢
  unfold cloF
  repeat' split at h
  all_goals first | (subst_vars; rfl) | simp at h
theorem oth_ne {c : Int} (h : othF c ≠ 0) : othF c ≠ c := fun e => by
  have := clo_oth h
  rw [e] at this
  cases hc : cloF c <;> simp [hc] at this
theorem oth_bd (c : Int) : 0 ≤ othF c ∧ othF c ≤ 125 := by
  unfold othF
  repeat' split
  all_goals omega

/-- The stacks, one of each opening bracket, and the partners. -/
abbrev DSt := (Int → List Nat) × (Nat → Int)
def updN (p : Nat → Int) (i : Nat) (v : Int) : Nat → Int := fun x => if x = i then v else p x
def updL (st : Int → List Nat) (c : Int) (v : List Nat) : Int → List Nat := fun x => if x = c then v else st x

def dstep (c : Int) (i : Nat) (s : DSt) : DSt :=
  if othF c = 0 then (s.1, updN s.2 i (-1))
  else if cloF c = false then (updL s.1 c (s.1 c ++ [i]), updN s.2 i (-1))
  else match (s.1 (othF c)).getLast? with
    | none => (s.1, updN s.2 i (-1))
    | some k => (updL s.1 (othF c) (s.1 (othF c)).dropLast, updN (updN s.2 i k) k i)
def drun (l : List Int) : Nat → DSt
  | 0 => (fun _ => [], fun _ => 0)
  | i + 1 => dstep (gI l i) i (drun l i)

theorem dropLast_snoc {l : List Nat} {k : Nat} (h : l.getLast? = some k) : l.dropLast ++ [k] = l := by
  obtain ⟨h1, h2⟩ := List.getLast?_eq_some_iff.1 h
  rw [h2]; simp

/-- What holds behind i characters. -/
structure DI (l : List Int) (i : Nat) (st : Int → List Nat) (p : Nat → Int) : Prop where
  sorted : ∀ c, (st c).Pairwise (· < ·)
  mem : ∀ c, ∀ k ∈ st c, k < i ∧ gI l k = c ∧ othF c ≠ 0 ∧ cloF c = false ∧ p k = -1
  part : ∀ j, j < i → p j = -1 ∨ ∃ m : Nat, p j = m ∧ m < i ∧ p m = j ∧ m ≠ j ∧ othF (gI l j) = gI l m ∧ cloF (gI l j) = decide (m < j) ∧ othF (gI l j) ≠ 0
  apart : ∀ x y : Nat, x < y → y < i → p x = y → ∀ k ∈ st (gI l x), k < x ∨ y < k
  nest : ∀ x y u v : Nat, x < y → y < i → u < v → v < i → p x = y → p u = v → gI l x = gI l u → x < u → u < y → v < y
  none_ : ∀ j, j < i → p j = -1 → othF (gI l j) ≠ 0 → cloF (gI l j) = false → j ∈ st (gI l j)

theorem DI.start (l : List Int) : DI l 0 (drun l 0).1 (drun l 0).2 where
  sorted := fun _ => .nil
  mem := fun _ _ h => by cases h
  part := fun _ h => absurd h (by omega)
  apart := fun _ _ _ h => absurd h (by omega)
  nest := fun _ _ _ _ _ h => absurd h (by omega)
  none_ := fun _ h => absurd h (by omega)

/-- Nothing is matched, nothing is laid. -/
theorem DI.plain {l : List Int} {i : Nat} {st : Int → List Nat} {p : Nat → Int} (h : DI l i st p) (hc : othF (gI l i) = 0 ∨ cloF (gI l i) = true) : DI l (i + 1) st (updN p i (-1)) := by
  have hu : ∀ j, j < i → updN p i (-1) j = p j := fun j hj => if_neg (by omega)
  have hi : updN p i (-1) i = -1 := if_pos rfl
  refine ⟨h.sorted, ?_, ?_, ?_, ?_, ?_⟩
  · intro c k hk
    obtain ⟨h1, h2, h3, h4, h5⟩ := h.mem c k hk
    exact ⟨by omega, h2, h3, h4, by rw [hu k h1]; exact h5⟩
  · intro j hj
    rcases Nat.lt_or_ge j i with h1 | h1
    · show updN p i (-1) j = -1 ∨ _
      rcases h.part j h1 with h2 | ⟨m, h2, h3, h4, h5⟩
      · exact .inl (by rw [hu j h1]; exact h2)
      · exact .inr ⟨m, by rw [hu j h1]; exact h2, by omega, by rw [hu m h3]; exact h4, h5⟩
    · obtain rfl : j = i := by omega
      exact .inl hi
  · intro x y hxy hy hp k hk
    rcases Nat.lt_or_ge y i with h1 | h1
    · exact h.apart x y hxy h1 (by rw [← hu x (by omega)]; exact hp) k hk
    · obtain rfl : y = i := by omega
      have hp' : p x = y := by rw [← hu x hxy]; exact hp
      rcases h.part x hxy with h2 | ⟨m, h2, h3, _⟩
      · rw [h2] at hp'; omega
      · rw [h2] at hp'; omega
  · intro x y u v hxy hy huv hv hp hq he hxu huy
    have hx : x < i := by omega
    have hu' : u < i := by omega
    have hp' : p x = y := by rw [← hu x hx]; exact hp
    have hq' : p u = v := by rw [← hu u hu']; exact hq
    have hy' : y < i := by
      rcases h.part x hx with h2 | ⟨m, h2, h3, _⟩ <;> omega
    have hv' : v < i := by
      rcases h.part u hu' with h2 | ⟨m, h2, h3, _⟩ <;> omega
    exact h.nest x y u v hxy hy' huv hv' hp' hq' he hxu huy
  · intro j hj h1 h2 h3
    rcases Nat.lt_or_ge j i with h4 | h4
    · exact h.none_ j h4 (by rw [← hu j h4]; exact h1) h2 h3
    · obtain rfl : j = i := by omega
      rcases hc with hc | hc
      · exact absurd hc h2
      · rw [hc] at h3; cases h3

/-- An opening bracket. -/
theorem DI.push {l : List Int} {i : Nat} {st : Int → List Nat} {p : Nat → Int} (h : DI l i st p) (ho : othF (gI l i) ≠ 0) (hc : cloF (gI l i) = false) : DI l (i + 1) (updL st (gI l i) (st (gI l i) ++ [i])) (updN p i (-1)) := by
  have hu : ∀ j, j < i → updN p i (-1) j = p j := fun j hj => if_neg (by omega)
  have hi : updN p i (-1) i = -1 := if_pos rfl
  have hmem : ∀ c k, k ∈ updL st (gI l i) (st (gI l i) ++ [i]) c ↔ k ∈ st c ∨ (c = gI l i ∧ k = i) := by
    intro c k
    unfold updL
    by_cases e : c = gI l i
    · subst e; simp
    · simp [e]
  have hlt : ∀ x y : Nat, x < i → p x = y → x < y → y < i := by
    intro x y hx hp hxy
    rcases h.part x hx with h2 | ⟨m, h2, h3, _⟩ <;> omega
  refine ⟨?_, ?_, ?_, ?_, ?_, ?_⟩
  · intro c
    show (updL st (gI l i) (st (gI l i) ++ [i]) c).Pairwise _
    unfold updL
    by_cases e : c = gI l i
    · subst e
      rw [if_pos rfl, List.pairwise_append]
      exact ⟨h.sorted _, by simp, fun a ha b hb => by
        obtain rfl := List.mem_singleton.1 hb
        exact (h.mem _ a ha).1⟩
    · rw [if_neg e]; exact h.sorted c
  · intro c k hk
    rcases (hmem c k).1 hk with h1 | ⟨rfl, rfl⟩
    · obtain ⟨h1, h2, h3, h4, h5⟩ := h.mem c k h1
      exact ⟨by omega, h2, h3, h4, by show updN p i (-1) k = -1; rw [hu k h1]; exact h5⟩
    · exact ⟨by omega, rfl, ho, hc, hi⟩
  · intro j hj
    show updN p i (-1) j = -1 ∨ _
    rcases Nat.lt_or_ge j i with h1 | h1
    · rcases h.part j h1 with h2 | ⟨m, h2, h3, h4, h5⟩
      · exact .inl (by rw [hu j h1]; exact h2)
      · exact .inr ⟨m, by show updN p i (-1) j = m; rw [hu j h1]; exact h2, by omega, by show updN p i (-1) m = j; rw [hu m h3]; exact h4, h5⟩
    · obtain rfl : j = i := by omega
      exact .inl hi
  · intro x y hxy hy hp k hk
    have hx : x < i := by omega
    have hp' : p x = y := by rw [← hu x hx]; exact hp
    have hy' := hlt x y hx hp' hxy
    rcases (hmem _ k).1 hk with h1 | ⟨_, rfl⟩
    · exact h.apart x y hxy hy' hp' k h1
    · exact .inr hy'
  · intro x y u v hxy hy huv hv hp hq he hxu huy
    have hx : x < i := by omega
    have hu' : u < i := by omega
    have hp' : p x = y := by rw [← hu x hx]; exact hp
    have hq' : p u = v := by rw [← hu u hu']; exact hq
    exact h.nest x y u v hxy (hlt x y hx hp' hxy) huv (hlt u v hu' hq' huv) hp' hq' he hxu huy
  · intro j hj h1 h2 h3
    rcases Nat.lt_or_ge j i with h4 | h4
    · exact (hmem _ j).2 (.inl (h.none_ j h4 (by rw [← hu j h4]; exact h1) h2 h3))
    · obtain rfl : j = i := by omega
      exact (hmem _ j).2 (.inr ⟨rfl, rfl⟩)

/-- A closing bracket that has a partner: k, the last one that waits. -/
theorem DI.pop {l : List Int} {i k : Nat} {st : Int → List Nat} {p : Nat → Int} (h : DI l i st p) (ho : othF (gI l i) ≠ 0) (hc : cloF (gI l i) = true) (hk : (st (othF (gI l i))).getLast? = some k) :
    DI l (i + 1) (updL st (othF (gI l i)) (st (othF (gI l i))).dropLast) (updN (updN p i k) k i) ∧ k < i := by
  have hsplit : st (othF (gI l i)) = (st (othF (gI l i))).dropLast ++ [k] := (dropLast_snoc hk).symm
  have hkm : k ∈ st (othF (gI l i)) := by rw [hsplit]; simp
  obtain ⟨hki, hkc, _, hkclo, hkp⟩ := h.mem _ k hkm
  have hlast : ∀ a ∈ (st (othF (gI l i))).dropLast, a < k := by
    have := h.sorted (othF (gI l i))
    rw [hsplit, List.pairwise_append] at this
    intro a ha
    exact this.2.2 a ha k (by simp)
  have hu : ∀ j, j < i → j ≠ k → updN (updN p i k) k i j = p j := fun j hj hne => by
    unfold updN; rw [if_neg hne, if_neg (by omega)]
  have huk : updN (updN p i k) k i k = i := if_pos rfl
  have hui : updN (updN p i k) k i i = k := by unfold updN; rw [if_neg (by omega), if_pos rfl]
  have hnk : ∀ j m : Nat, j < i → p j = m → j ≠ k → m ≠ k := by
    intro j m hj hp hne hmk
    subst hmk
    rcases h.part j hj with h2 | ⟨m', h2, h3, h4, h5⟩
    · omega
    · obtain rfl : m' = m := by omega
      rw [hkp] at h4; omega
  have hmem : ∀ c a, a ∈ updL st (othF (gI l i)) (st (othF (gI l i))).dropLast c → a ∈ st c ∧ a ≠ k := by
    intro c a ha
    unfold updL at ha
    by_cases e : c = othF (gI l i)
    · subst e
      rw [if_pos rfl] at ha
      have h1 := hlast a ha
      exact ⟨by rw [hsplit]; simp [ha], by omega⟩
    · rw [if_neg e] at ha
      refine ⟨ha, fun e2 => e ?_⟩
      subst e2
      rw [← (h.mem c a ha).2.1, hkc]
  refine ⟨⟨?_, ?_, ?_, ?_, ?_, ?_⟩, hki⟩
  · intro c
    show (updL st (othF (gI l i)) (st (othF (gI l i))).dropLast c).Pairwise _
    unfold updL
    by_cases e : c = othF (gI l i)
    · subst e
      rw [if_pos rfl]
      exact (h.sorted _).sublist (List.dropLast_sublist _)
    · rw [if_neg e]; exact h.sorted c
  · intro c a ha
    obtain ⟨h1, h2⟩ := hmem c a ha
    obtain ⟨h3, h4, h5, h6, h7⟩ := h.mem c a h1
    exact ⟨by omega, h4, h5, h6, by show updN (updN p i k) k i a = -1; rw [hu a h3 h2]; exact h7⟩
  · intro j hj
    show updN (updN p i k) k i j = -1 ∨ _
    by_cases hjk : j = k
    · subst hjk
      refine .inr ⟨i, huk, by omega, hui, by omega, ?_, ?_, ?_⟩
      · rw [hkc]; exact oth_oth ho
      · rw [hkc, hkclo]; simp; omega
      · rw [hkc, oth_oth ho]
        intro e
        rw [e] at ho
        exact ho rfl
    · rcases Nat.lt_or_ge j i with h1 | h1
      · rcases h.part j h1 with h2 | ⟨m, h2, h3, h4, h5⟩
        · exact .inl (by rw [hu j h1 hjk]; exact h2)
        · exact .inr ⟨m, by show updN (updN p i k) k i j = m; rw [hu j h1 hjk]; exact h2, by omega, by show updN (updN p i k) k i m = j; rw [hu m h3 (hnk j m h1 h2 hjk)]; exact h4, h5⟩
      · obtain rfl : j = i := by omega
        refine .inr ⟨k, hui, by omega, huk, by omega, hkc.symm, ?_, ho⟩
        rw [hc]; simp; omega
  · intro x y hxy hy hp a ha
    obtain ⟨ha1, ha2⟩ := hmem _ a ha
    by_cases hxk : x = k
    · subst hxk
      left
      have e : gI l x = othF (gI l i) := hkc
      unfold updL at ha
      rw [if_pos e] at ha
      exact hlast a ha
    · have hx : x < i := by omega
      have hp' : p x = y := by rw [← hu x hx hxk]; exact hp
      have hy' : y < i := by
        rcases h.part x hx with h2 | ⟨m, h2, h3, _⟩ <;> omega
      exact h.apart x y hxy hy' hp' a ha1
  · intro x y u v hxy hy huv hv hp hq he hxu huy
    have hx : x < i := by omega
    have hul : u < i := by omega
    by_cases hxk : x = k
    · -- the new pair is the outer one
      subst hxk
      have : y = i := by have := huk; rw [show updN (updN p i x) x i x = y from hp] at this; omega
      subst this
      have hq' : p u = v := by rw [← hu u hul (by omega)]; exact hq
      rcases h.part u hul with h2 | ⟨m, h2, h3, _⟩ <;> omega
    · have hp' : p x = y := by rw [← hu x hx hxk]; exact hp
      have hy' : y < i := by
        rcases h.part x hx with h2 | ⟨m, h2, h3, _⟩ <;> omega
      by_cases huk' : u = k
      · -- the new pair is the inner one: it can't be
        subst huk'
        have := h.apart x y hxy hy' hp' u (by rw [he, hkc]; exact hkm)
        omega
      · have hq' : p u = v := by rw [← hu u hul huk']; exact hq
        have hv' : v < i := by
          rcases h.part u hul with h2 | ⟨m, h2, h3, _⟩ <;> omega
        exact h.nest x y u v hxy hy' huv hv' hp' hq' he hxu huy
  · intro j hj h1 h2 h3
    have hjk : j ≠ k := by
      intro e
      subst e
      rw [show updN (updN p i j) j i j = (-1 : Int) from h1] at huk
      omega
    rcases Nat.lt_or_ge j i with h4 | h4
    · have h5 := h.none_ j h4 (by rw [← hu j h4 hjk]; exact h1) h2 h3
      show j ∈ updL st (othF (gI l i)) (st (othF (gI l i))).dropLast (gI l j)
      unfold updL
      by_cases e : gI l j = othF (gI l i)
      · rw [if_pos e]
        rw [e, hsplit] at h5
        rcases List.mem_append.1 h5 with h6 | h6
        · exact h6
        · exact absurd (List.mem_singleton.1 h6) hjk
      · rw [if_neg e]; exact h5
    · obtain rfl : j = i := by omega
      rw [hc] at h3; cases h3

theorem dstep_plain {c : Int} {i : Nat} {s : DSt} (h : othF c = 0) : dstep c i s = (s.1, updN s.2 i (-1)) := by unfold dstep; rw [if_pos h]
theorem dstep_push {c : Int} {i : Nat} {s : DSt} (h : othF c ≠ 0) (hc : cloF c = false) : dstep c i s = (updL s.1 c (s.1 c ++ [i]), updN s.2 i (-1)) := by unfold dstep; rw [if_neg h, if_pos hc]
theorem dstep_miss {c : Int} {i : Nat} {s : DSt} (h : othF c ≠ 0) (hc : cloF c = true) (he : s.1 (othF c) = []) : dstep c i s = (s.1, updN s.2 i (-1)) := by
  unfold dstep; rw [if_neg h, if_neg (by rw [hc]; simp), he]; rfl
theorem dstep_pop {c : Int} {i k : Nat} {s : DSt} (h : othF c ≠ 0) (hc : cloF c = true) (he : (s.1 (othF c)).getLast? = some k) : dstep c i s = (updL s.1 (othF c) (s.1 (othF c)).dropLast, updN (updN s.2 i k) k i) := by
  unfold dstep; rw [if_neg h, if_neg (by rw [hc]; simp), he]

theorem drun_DI (l : List Int) : ∀ i, DI l i (drun l i).1 (drun l i).2
  | 0 => DI.start l
  | i + 1 => by
    have h := drun_DI l i
    show DI l (i + 1) (dstep (gI l i) i (drun l i)).1 (dstep (gI l i) i (drun l i)).2
    by_cases h1 : othF (gI l i) = 0
    · rw [dstep_plain h1]; exact h.plain (.inl h1)
    · cases hc : cloF (gI l i) with
      | false => rw [dstep_push h1 hc]; exact h.push h1 hc
      | true =>
        cases he : ((drun l i).1 (othF (gI l i))).getLast? with
        | none => rw [dstep_miss h1 hc (List.getLast?_eq_none_iff.1 he)]; exact h.plain (.inr hc)
        | some k => rw [dstep_pop h1 hc he]; exact (h.pop h1 hc he).1

/-- The row of partners behind i characters. -/
def prow (l : List Int) (i : Nat) : List Int := (List.range l.length).map fun j => if j < i then (drun l i).2 j else 0
/-- All partners. -/
def pairsF (l : List Int) : List Int := (List.range l.length).map fun j => (drun l l.length).2 j
theorem prow_len (l : List Int) (i : Nat) : (prow l i).length = l.length := by simp [prow]
theorem pairsF_len (l : List Int) : (pairsF l).length = l.length := by simp [pairsF]
theorem prow_end (l : List Int) : prow l l.length = pairsF l := by
  apply List.ext_getElem
  · simp [prow, pairsF]
  · intro j h1 h2
    simp [prow] at h1
    simp [prow, pairsF, h1]
theorem prow_start (l : List Int) : prow l 0 = List.replicate l.length 0 := by
  apply List.ext_getElem
  · simp [prow]
  · intro j h1 h2; simp [prow]
theorem prow_plain {l : List Int} {i : Nat} (h : (drun l (i + 1)).2 = updN (drun l i).2 i (-1)) : prow l (i + 1) = (prow l i).set i (-1) := by
  apply List.ext_getElem
  · simp [prow]
  · intro j h1 h2
    rw [List.getElem_set]
    simp [prow, h, updN]
    by_cases e : i = j
    · subst e; simp
    · rw [if_neg e]
      by_cases h3 : j < i
      · rw [if_pos (by omega), if_pos h3, if_neg (by omega)]
      · rw [if_neg (by omega), if_neg h3]
theorem prow_pop {l : List Int} {i k : Nat} (hk : k < i) (h : (drun l (i + 1)).2 = updN (updN (drun l i).2 i k) k i) : prow l (i + 1) = (((prow l i).set i (-1)).set i k).set k i := by
  apply List.ext_getElem
  · simp [prow]
  · intro j h1 h2
    rw [List.getElem_set, List.getElem_set, List.getElem_set]
    simp [prow, h, updN]
    by_cases e : k = j
    · subst e; simp; omega
    · rw [if_neg e]
      by_cases e2 : i = j
      · subst e2; simp; omega
      · rw [if_neg e2]
        by_cases h3 : j < i
        · rw [if_pos (by omega), if_pos h3, if_neg (by omega), if_neg (by omega), if_neg e2]
        · rw [if_neg (by omega), if_neg h3, if_neg e2]
theorem pairsF_at {l : List Int} {j : Nat} (h : j < l.length) : gI (pairsF l) j = (drun l l.length).2 j := by simp [gI, pairsF, h]
end Go.Proofs.Ytkjlgfokgpdliaa
