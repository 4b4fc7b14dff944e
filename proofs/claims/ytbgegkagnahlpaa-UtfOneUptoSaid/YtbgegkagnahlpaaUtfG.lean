/-
  Characters out of bytes, in plain Lean: what Get answers; a character's bytes are that character, and nothing else is.
-/
import Derived.Test.YtbgegkagnahlpaaUtfM
namespace Go.Proofs.Ytbgegkagnahlpaa
set_option linter.unusedVariables false
set_option linter.unusedSimpArgs false

/-- A text's bytes, as numbers. -/
def nums (s : ByteArray) : List Nat := s.data.toList.map UInt8.toNat
def gN (l : List Nat) (k : Nat) : Nat := l[k]?.getD 0
theorem nums_len (s : ByteArray) : (nums s).length = s.size := by unfold nums; rw [List.length_map]; rfl
theorem nums_lt (s : ByteArray) : ∀ x ∈ nums s, x < 256 := by
  intro x hx
  unfold nums at hx
  obtain ⟨u, _, rfl⟩ := List.mem_map.1 hx
  exact u.toNat_lt
theorem strN_nums (s : ByteArray) : strN (nums s) = s := by
  unfold strN nums
  apply ByteArray.ext
  apply Array.toList_inj.1
  simp only [List.map_map]
  conv => rhs; rw [← List.map_id s.data.toList]
  apply List.map_congr_left
  intro x hx
  simp
theorem nums_strN {l : List Nat} (h : ∀ x ∈ l, x < 256) : nums (strN l) = l := by
  unfold strN nums
  simp only [List.toList_toArray, List.map_map]
  conv => rhs; rw [← List.map_id l]
  apply List.map_congr_left
  intro x hx
  simp only [Function.comp, UInt8.toNat_ofNat', id]
  exact Nat.mod_eq_of_lt (h x hx)
theorem nums_at (s : ByteArray) (k : Nat) (h : k < s.size) : (s[k]'h).toNat = gN (nums s) k := by
  unfold gN nums
  rw [List.getElem?_map, List.getElem?_eq_getElem (show k < s.data.toList.length by simpa using h)]
  simp
  rfl
theorem gN_lt {l : List Nat} (h : ∀ x ∈ l, x < 256) (k : Nat) : gN l k < 256 := by
  unfold gN
  cases hk : l[k]? with
  | none => simp
  | some u => exact h u (List.mem_of_getElem? hk)
theorem nums_app (s t : ByteArray) : nums (s ++ t) = nums s ++ nums t := by
  unfold nums
  simp [ByteArray.data_append]
theorem nums_from (s : ByteArray) (k : Nat) : nums (s.extract k s.size) = (nums s).drop k := by
  unfold nums
  rw [ByteArray.data_extract]
  simp only [Array.toList_extract, List.extract, ← List.map_drop]
  rw [List.take_of_length_le]
  rw [List.length_drop]
  exact Nat.le_refl _
theorem nums_inj {s t : ByteArray} (h : nums s = nums t) : s = t := by rw [← strN_nums s, ← strN_nums t, h]

/-- How a first byte begins: how many bytes, and its bits. -/
def leadN (b : Nat) : Nat := if b < 128 then 1 else if b < 192 then 0 else if b < 224 then 2 else if b < 240 then 3 else if b < 248 then 4 else 0
def leadC (b : Nat) : Nat := if b < 128 then b else if b < 192 then 0 else if b < 224 then b % 32 else if b < 240 then b % 16 else if b < 248 then b % 8 else 0
def leastF (n : Nat) : Nat := if n = 2 then 128 else if n = 3 then 2048 else if n = 4 then 65536 else 0
/-- The bytes behind the first one: what goes wrong (0: nothing), and the number. -/
def tailF (l : List Nat) : Nat → Nat → Nat → Nat × Nat
  | 0, _, c => (0, c)
  | f + 1, i, c => if i = l.length then (3, c) else if gN l i / 64 ≠ 2 then (4, c) else tailF l f (i + 1) (c * 64 + gN l i % 64)
def getR (l : List Nat) : Nat × Nat := tailF l (leadN (gN l 0) - 1) 1 (leadC (gN l 0))
def getOk (l : List Nat) : Prop := ¬ ((getR l).2 < leastF (leadN (gN l 0)) ∨ ¬ scal (getR l).2)
instance (l : List Nat) : Decidable (getOk l) := by unfold getOk; exact inferInstance
/-- What goes wrong with the character that begins so. -/
def getE (l : List Nat) : Nat := if l.length = 0 then 3 else if leadN (gN l 0) = 0 then 4 else if (getR l).1 ≠ 0 then (getR l).1 else if getOk l then 0 else 4
def getC (l : List Nat) : Nat := if getE l = 0 then (getR l).2 else 0
def getW (l : List Nat) : Nat := if getE l = 0 then leadN (gN l 0) else 0

theorem encN_len_pos (c : Nat) : 0 < (encN c).length := by unfold encN; split <;> (try split) <;> (try split) <;> simp
theorem encN_len_le (c : Nat) : (encN c).length ≤ 4 := by unfold encN; split <;> (try split) <;> (try split) <;> simp

theorem gN_zero (a : Nat) (l : List Nat) : gN (a :: l) 0 = a := rfl
theorem gN_succ (a : Nat) (l : List Nat) (k : Nat) : gN (a :: l) (k + 1) = gN l k := rfl

theorem lead1 {b : Nat} (h : b < 128) : leadN b = 1 ∧ leadC b = b := by unfold leadN leadC; rw [if_pos h, if_pos h]; exact ⟨rfl, rfl⟩
theorem lead0 {b : Nat} (h : 128 ≤ b) (h' : b < 192) : leadN b = 0 := by unfold leadN; rw [if_neg (by omega), if_pos h']
theorem lead2 {b : Nat} (h : 192 ≤ b) (h' : b < 224) : leadN b = 2 ∧ leadC b = b % 32 := by
  unfold leadN leadC; rw [if_neg (by omega), if_neg (by omega), if_pos h', if_neg (by omega), if_neg (by omega), if_pos h']; exact ⟨rfl, rfl⟩
theorem lead3 {b : Nat} (h : 224 ≤ b) (h' : b < 240) : leadN b = 3 ∧ leadC b = b % 16 := by
  unfold leadN leadC; rw [if_neg (by omega), if_neg (by omega), if_neg (by omega), if_pos h', if_neg (by omega), if_neg (by omega), if_neg (by omega), if_pos h']; exact ⟨rfl, rfl⟩
theorem lead4 {b : Nat} (h : 240 ≤ b) (h' : b < 248) : leadN b = 4 ∧ leadC b = b % 8 := by
  unfold leadN leadC; rw [if_neg (by omega), if_neg (by omega), if_neg (by omega), if_neg (by omega), if_pos h', if_neg (by omega), if_neg (by omega), if_neg (by omega), if_neg (by omega), if_pos h']; exact ⟨rfl, rfl⟩
theorem lead5 {b : Nat} (h : 248 ≤ b) : leadN b = 0 := by
  unfold leadN; rw [if_neg (by omega), if_neg (by omega), if_neg (by omega), if_neg (by omega), if_neg (by omega)]
theorem leadN_enc {c : Nat} (h : scal c) (m : List Nat) : leadN (gN (encN c ++ m) 0) = (encN c).length := by
  obtain ⟨h0, h1, h2⟩ := h
  unfold encN
  split
  · rw [List.cons_append, gN_zero, (lead1 (by omega)).1]; rfl
  split
  · rw [List.cons_append, gN_zero, (lead2 (by omega) (by omega)).1]; rfl
  split
  · rw [List.cons_append, gN_zero, (lead3 (by omega) (by omega)).1]; rfl
  · rw [List.cons_append, gN_zero, (lead4 (by omega) (by omega)).1]; rfl
theorem tailF_goes {l : List Nat} {f i c : Nat} (h1 : i ≠ l.length) (h2 : gN l i / 64 = 2) : tailF l (f + 1) i c = tailF l f (i + 1) (c * 64 + gN l i % 64) := by
  rw [tailF, if_neg h1, if_neg (by omega)]
theorem getR_enc {c : Nat} (h : scal c) (m : List Nat) : getR (encN c ++ m) = (0, c) := by
  unfold getR
  rw [leadN_enc h]
  obtain ⟨h0, h1, h2⟩ := h
  unfold encN
  split
  · rw [List.cons_append, gN_zero, (lead1 (by omega)).2]; rfl
  split
  · rw [List.cons_append, gN_zero, (lead2 (by omega) (by omega)).2]
    show tailF ((192 + c / 64) :: (128 + c % 64) :: m) 1 1 _ = _
    rw [tailF_goes (by simp) (by rw [gN_succ, gN_zero]; omega), tailF, gN_succ, gN_zero]
    congr 1; omega
  split
  · rw [List.cons_append, gN_zero, (lead3 (by omega) (by omega)).2]
    show tailF ((224 + c / 4096) :: (128 + c / 64 % 64) :: (128 + c % 64) :: m) 2 1 _ = _
    rw [tailF_goes (by simp) (by rw [gN_succ, gN_zero]; omega), tailF_goes (by simp) (by rw [gN_succ, gN_succ, gN_zero]; omega), tailF, gN_succ, gN_succ, gN_succ, gN_zero, gN_zero]
    congr 1; omega
  · rw [List.cons_append, gN_zero, (lead4 (by omega) (by omega)).2]
    show tailF ((240 + c / 262144) :: (128 + c / 4096 % 64) :: (128 + c / 64 % 64) :: (128 + c % 64) :: m) 3 1 _ = _
    rw [tailF_goes (by simp) (by rw [gN_succ, gN_zero]; omega), tailF_goes (by simp) (by rw [gN_succ, gN_succ, gN_zero]; omega), tailF_goes (by simp) (by rw [gN_succ, gN_succ, gN_succ, gN_zero]; omega), tailF]
    simp only [gN_succ, gN_zero]
    congr 1; omega
theorem getE_enc {c : Nat} (h : scal c) (m : List Nat) : getE (encN c ++ m) = 0 := by
  have hl := leadN_enc h m
  have hr := getR_enc h m
  have hp := encN_len_pos c
  unfold getE
  rw [if_neg (by rw [List.length_append]; omega), if_neg (by omega), hr, if_neg (by simp), if_pos]
  unfold getOk
  rw [hr, hl]
  refine fun hh => hh.elim (fun h1 => ?_) (fun h1 => h1 h)
  unfold encN leastF at h1
  obtain ⟨h0, _, h2⟩ := h
  split at h1
  · simp at h1
  split at h1
  · simp at h1; omega
  split at h1
  · simp at h1; omega
  · simp at h1; omega
theorem getC_enc {c : Nat} (h : scal c) (m : List Nat) : getC (encN c ++ m) = c := by
  unfold getC; rw [if_pos (getE_enc h m), getR_enc h m]
theorem getW_enc {c : Nat} (h : scal c) (m : List Nat) : getW (encN c ++ m) = (encN c).length := by
  unfold getW; rw [if_pos (getE_enc h m), leadN_enc h m]

theorem gN_cons_of {l : List Nat} (h : 0 < l.length) : ∃ m, l = gN l 0 :: m := by
  cases l with
  | nil => simp at h
  | cons a m => exact ⟨m, rfl⟩
theorem tailF_one {l : List Nat} {f i c e r : Nat} (hi : i < l.length ∨ i = l.length) (h : tailF l (f + 1) i c = (0, r)) : i < l.length ∧ gN l i / 64 = 2 ∧ tailF l f (i + 1) (c * 64 + gN l i % 64) = (0, r) := by
  unfold tailF at h
  split at h
  · simp at h
  · rename_i h1
    split at h
    · simp at h
    · rename_i h2
      exact ⟨by omega, by omega, h⟩

/-- What is got is a character whose bytes stand there. -/
theorem get_is {l : List Nat} (hb : ∀ x ∈ l, x < 256) (h : getE l = 0) : scal (getC l) ∧ getW l = (encN (getC l)).length ∧ ∃ m, l = encN (getC l) ++ m := by
  have hC : getC l = (getR l).2 := by unfold getC; rw [if_pos h]
  have hW : getW l = leadN (gN l 0) := by unfold getW; rw [if_pos h]
  rw [hC, hW]
  unfold getE at h
  split at h
  · cases h
  rename_i h0
  split at h
  · cases h
  rename_i h1
  split at h
  · exact absurd h (by assumption)
  rename_i h2
  split at h
  rotate_left
  · cases h
  rename_i h3
  have h2' : (getR l).1 = 0 := by omega
  clear h h2
  unfold getOk at h3
  obtain ⟨h4, h5⟩ := not_or.1 h3
  replace h5 := Decidable.not_not.1 h5
  clear h3
  obtain ⟨r, hr⟩ : ∃ r, getR l = (0, r) := ⟨(getR l).2, by rw [← h2']⟩
  rw [hr] at h4 h5 ⊢
  clear h2'
  simp only at h4 h5 ⊢
  refine ⟨h5, ?_⟩
  obtain ⟨m, hm⟩ := gN_cons_of (l := l) (by omega)
  have hb0 := hb (gN l 0) (by rw [hm, gN_zero]; simp)
  generalize gN l 0 = b at *
  unfold getR at hr
  rw [hm, gN_zero] at hr
  rw [hm] at hb
  subst hm
  clear hC hW h0
  have hbs := h5.2.1
  by_cases c1 : b < 128
  · obtain ⟨e1, e2⟩ := lead1 c1
    rw [e1] at h1 h4 hr ⊢
    rw [e2] at hr
    simp only [Nat.sub_self, tailF] at hr
    injection hr with _ hr
    subst hr
    have e : encN b = [b] := by unfold encN; rw [if_pos c1]
    rw [e]
    exact ⟨rfl, m, rfl⟩
  by_cases c2 : b < 192
  · exact absurd (lead0 (by omega) c2) h1
  by_cases c3 : b < 224
  · obtain ⟨e1, e2⟩ := lead2 (by omega) c3
    rw [e1] at h1 h4 hr ⊢
    rw [e2] at hr
    replace hr : tailF (b :: m) 1 1 (b % 32) = (0, r) := hr
    obtain ⟨l1, d1, hr⟩ := tailF_one (e := 0) (by rw [List.length_cons]; omega) hr
    cases m with
    | nil => simp at l1
    | cons b1 m =>
      simp only [tailF] at hr
      injection hr with _ hr
      rw [gN_succ, gN_zero] at hr d1
      replace h4 : ¬ r < 128 := h4
      have e : encN r = [b, b1] := by
        unfold encN
        rw [if_neg (by omega), if_pos (by omega)]
        congr 1
        · omega
        · congr 1; omega
      rw [e]
      exact ⟨rfl, m, rfl⟩
  by_cases c4 : b < 240
  · obtain ⟨e1, e2⟩ := lead3 (by omega) c4
    rw [e1] at h1 h4 hr ⊢
    rw [e2] at hr
    replace hr : tailF (b :: m) 2 1 (b % 16) = (0, r) := hr
    obtain ⟨l1, d1, hr⟩ := tailF_one (e := 0) (by rw [List.length_cons]; omega) hr
    obtain ⟨l2, d2, hr⟩ := tailF_one (e := 0) (by omega) hr
    cases m with
    | nil => simp at l1
    | cons b1 m =>
    cases m with
    | nil => simp at l2
    | cons b2 m =>
      simp only [tailF] at hr
      injection hr with _ hr
      simp only [gN_succ, gN_zero] at d1 d2 hr
      replace h4 : ¬ r < 2048 := h4
      have e : encN r = [b, b1, b2] := by
        unfold encN
        rw [if_neg (by omega), if_neg (by omega), if_pos (by omega)]
        congr 1
        · omega
        · congr 1
          · omega
          · congr 1; omega
      rw [e]
      exact ⟨rfl, m, rfl⟩
  by_cases c5 : b < 248
  · obtain ⟨e1, e2⟩ := lead4 (by omega) c5
    rw [e1] at h1 h4 hr ⊢
    rw [e2] at hr
    replace hr : tailF (b :: m) 3 1 (b % 8) = (0, r) := hr
    obtain ⟨l1, d1, hr⟩ := tailF_one (e := 0) (by rw [List.length_cons]; omega) hr
    obtain ⟨l2, d2, hr⟩ := tailF_one (e := 0) (by omega) hr
    obtain ⟨l3, d3, hr⟩ := tailF_one (e := 0) (by omega) hr
    cases m with
    | nil => simp at l1
    | cons b1 m =>
    cases m with
    | nil => simp at l2
    | cons b2 m =>
    cases m with
    | nil => simp at l3
    | cons b3 m =>
      simp only [tailF] at hr
      injection hr with _ hr
      simp only [gN_succ, gN_zero] at d1 d2 d3 hr
      replace h4 : ¬ r < 65536 := h4
      have e : encN r = [b, b1, b2, b3] := by
        unfold encN
        rw [if_neg (by omega), if_neg (by omega), if_neg (by omega)]
        congr 1
        · omega
        · congr 1
          · omega
          · congr 1
            · omega
            · congr 1; omega
      rw [e]
      exact ⟨rfl, m, rfl⟩
  · exact absurd (lead5 (by omega)) h1
end Go.Proofs.Ytbgegkagnahlpaa
