/-
  Characters as bytes, in plain Lean: numbers of bytes, their order.
-/
import Derived.Test.YtbgegkagnahlpaaBase
namespace Go.Proofs.Ytbgegkagnahlpaa

/-- Is that the number of a character? -/
def scal (c : Int) : Prop := 0 ≤ c ∧ c ≤ 1114111 ∧ (c < 55296 ∨ 57343 < c)
instance (c : Int) : Decidable (scal c) := by unfold scal; exact inferInstance

/-- A character's bytes, as numbers. -/
def encN (c : Nat) : List Nat :=
  if c < 128 then [c]
  else if c < 2048 then [192 + c / 64, 128 + c % 64]
  else if c < 65536 then [224 + c / 4096, 128 + c / 64 % 64, 128 + c % 64]
  else [240 + c / 262144, 128 + c / 4096 % 64, 128 + c / 64 % 64, 128 + c % 64]

/-- A text of bytes that are told as numbers. -/
def strN (l : List Nat) : ByteArray := ⟨(l.map UInt8.ofNat).toArray⟩

theorem encode_eq {c : Nat} (h : scal c) : Utf8.encode c = strN (encN c) := by
  obtain ⟨h0, h1, h2⟩ := h
  have hv : Utf8.valid (c : Int) = true := by
    unfold Utf8.valid
    rcases h2 with h2 | h2
    · simp; omega
    · simp; omega
  unfold Utf8.encode encN strN
  simp only [hv, if_true, Int.toNat_natCast]
  split
  · rfl
  · split
    · rfl
    · split <;> rfl

/-- Which text of numbers is the lesser one? -/
def lessN : List Nat → List Nat → Bool
  | _, [] => false
  | [], _ :: _ => true
  | a :: x, b :: y => decide (a < b) || (a == b && lessN x y)

theorem less_strN : ∀ (l m : List Nat), (∀ x ∈ l, x < 256) → (∀ x ∈ m, x < 256) → Op.bytesLess (l.map UInt8.ofNat) (m.map UInt8.ofNat) = lessN l m
  | [], [], _, _ => rfl
  | _ :: _, [], _, _ => rfl
  | [], _ :: _, _, _ => rfl
  | a :: x, b :: y, hl, hm => by
    have ha : a < 256 := hl a (by simp)
    have hb : b < 256 := hm b (by simp)
    have ih := less_strN x y (fun u hu => hl u (by simp [hu])) (fun u hu => hm u (by simp [hu]))
    simp only [List.map_cons, Op.bytesLess, lessN, ih]
    have e1 : (UInt8.ofNat a < UInt8.ofNat b) ↔ a < b := by
      rw [UInt8.lt_iff_toNat_lt, UInt8.toNat_ofNat', UInt8.toNat_ofNat', Nat.mod_eq_of_lt ha, Nat.mod_eq_of_lt hb]
    have e2 : (UInt8.ofNat a == UInt8.ofNat b) = (a == b) := by
      rw [Bool.eq_iff_iff, beq_iff_eq, beq_iff_eq]
      constructor
      · intro h
        have := congrArg UInt8.toNat h
        rwa [UInt8.toNat_ofNat', UInt8.toNat_ofNat', Nat.mod_eq_of_lt ha, Nat.mod_eq_of_lt hb] at this
      · rintro rfl; rfl
    rw [e2]
    congr 1
    simp [e1]

theorem encN_lt {c : Nat} (h : c ≤ 1114111) : ∀ x ∈ encN c, x < 256 := by
  intro x hx
  unfold encN at hx
  split at hx
  · simp at hx; omega
  · split at hx
    · simp at hx; omega
    · split at hx
      · simp at hx; omega
      · simp at hx; omega

theorem less_encN {a b : Nat} (ha : a ≤ 1114111) (hb : b ≤ 1114111) : lessN (encN a) (encN b) = decide (a < b) := by
  unfold encN
  rw [Bool.eq_iff_iff]
  split <;> split <;> (try split) <;> (try split) <;> (try split) <;> (try split) <;> simp [lessN] <;> omega
end Go.Proofs.Ytbgegkagnahlpaa
