/-
  All the characters of a text, in plain Lean.
-/
import Derived.Test.YtbgegkagnahlpaaUtfG
import Derived.Laws.Cover4
namespace Go.Proofs.Ytbgegkagnahlpaa
set_option linter.unusedVariables false
set_option linter.unusedSimpArgs false

/-- The characters that are read till none is; what goes wrong then (0: nothing); how many bytes were passed. -/
def allL : Nat → List Nat → List Int
  | 0, _ => []
  | f + 1, r => if r.length = 0 ∨ getE r ≠ 0 then [] else (getC r : Int) :: allL f (r.drop (getW r))
def allE : Nat → List Nat → Nat
  | 0, _ => 0
  | f + 1, r => if r.length = 0 then 0 else if getE r ≠ 0 then getE r else allE f (r.drop (getW r))
def allW : Nat → List Nat → Nat
  | 0, _ => 0
  | f + 1, r => if r.length = 0 ∨ getE r ≠ 0 then 0 else getW r + allW f (r.drop (getW r))

def encL (l : List Int) : List Nat := l.flatMap fun c => encN c.toNat
theorem encL_nil : encL [] = [] := rfl
theorem encL_cons (c : Int) (l : List Int) : encL (c :: l) = encN c.toNat ++ encL l := rfl
theorem encL_app (l m : List Int) : encL (l ++ m) = encL l ++ encL m := by unfold encL; simp
theorem encL_lt {l : List Int} (h : ∀ c ∈ l, scal c) : ∀ x ∈ encL l, x < 256 := by
  intro x hx
  unfold encL at hx
  obtain ⟨c, hc, hx⟩ := List.mem_flatMap.1 hx
  have := h c hc
  exact encN_lt (by have h1 := this.2.1; have h2 := this.1; omega) x hx
theorem encL_ge (l : List Int) : l.length ≤ (encL l).length := by
  induction l with
  | nil => simp
  | cons c l ih => rw [encL_cons, List.length_append, List.length_cons]; have := encN_len_pos c.toNat; omega
theorem encL_le (l : List Int) : (encL l).length ≤ 4 * l.length := by
  induction l with
  | nil => simp [encL]
  | cons c l ih => rw [encL_cons, List.length_append, List.length_cons]; have := encN_len_le c.toNat; omega
theorem scal_nat {c : Int} (h : scal c) : scal (c.toNat : Nat) := by obtain ⟨h0, h1⟩ := h; rw [Int.toNat_of_nonneg h0]; exact ⟨h0, h1⟩

theorem all_enc : ∀ (l : List Int) (f : Nat), (∀ c ∈ l, scal c) → l.length ≤ f → allL f (encL l) = l ∧ allE f (encL l) = 0 ∧ allW f (encL l) = (encL l).length
  | [], 0, _, _ => ⟨rfl, rfl, rfl⟩
  | [], f + 1, _, _ => by simp [encL_nil, allL, allE, allW]
  | c :: l, 0, _, h => by simp at h
  | c :: l, f + 1, h, hf => by
    have hc := scal_nat (h c (by simp))
    obtain ⟨h1, h2, h3⟩ := all_enc l f (fun x hx => h x (by simp [hx])) (by simp at hf; omega)
    have k0 := getE_enc hc (encL l)
    have k1 := getC_enc hc (encL l)
    have k2 := getW_enc hc (encL l)
    have hp := encN_len_pos c.toNat
    have hl : (encN c.toNat ++ encL l).length ≠ 0 := by rw [List.length_append]; omega
    have hn : ¬ ((encN c.toNat ++ encL l).length = 0 ∨ getE (encN c.toNat ++ encL l) ≠ 0) := by rw [k0]; simp only [ne_eq, not_true_eq_false, or_false]; exact hl
    rw [encL_cons]
    refine ⟨?_, ?_, ?_⟩
    · rw [allL, if_neg hn, k1, k2, List.drop_left, h1, Int.toNat_of_nonneg (h c (by simp)).1]
    · rw [allE, if_neg hl, if_neg (by rw [k0]; simp), k2, List.drop_left, h2]
    · rw [allW, if_neg hn, k2, List.drop_left, h3, List.length_append]

theorem all_is : ∀ (f : Nat) (r : List Nat), (∀ x ∈ r, x < 256) → r.length ≤ f → (∀ c ∈ allL f r, scal c) ∧ allW f r ≤ r.length ∧ r.take (allW f r) = encL (allL f r) ∧ (allL f r).length ≤ allW f r ∧ (allE f r = 0 → allW f r = r.length) ∧ (allE f r ≠ 0 → getE (r.drop (allW f r)) = allE f r)
  | 0, r, _, h => by
    obtain rfl : r = [] := List.length_eq_zero_iff.1 (by omega)
    simp [allL, allW, allE, encL]
  | f + 1, r, hb, h => by
    by_cases h0 : r.length = 0
    · obtain rfl : r = [] := List.length_eq_zero_iff.1 h0
      simp [allL, allW, allE, encL]
    by_cases he : getE r = 0
    · obtain ⟨h1, h2, m, h3⟩ := get_is hb he
      have hn : ¬ (r.length = 0 ∨ getE r ≠ 0) := by simp [he]; intro hr; rw [hr] at h0; simp at h0
      have hp := encN_len_pos (getC r)
      have hlen : r.length = (encN (getC r)).length + m.length := by have := congrArg List.length h3; rwa [List.length_append] at this
      have hd : r.drop (getW r) = m := by rw [h2, congrArg (List.drop (encN (getC r)).length) h3]; exact List.drop_left
      obtain ⟨a1, a2, a3, a4, a5, a6⟩ := all_is f (r.drop (getW r)) (fun x hx => hb x (List.mem_of_mem_drop hx)) (by rw [List.length_drop]; omega)
      have hdl : (r.drop (getW r)).length = m.length := by rw [hd]
      rw [allL, allW, allE, if_neg hn, if_neg hn, if_neg h0, if_neg (by rw [he]; simp)]
      refine ⟨?_, by omega, ?_, by simp only [List.length_cons]; omega, fun h => by have := a5 h; omega, fun h => by rw [← List.drop_drop]; exact a6 h⟩
      · intro c hc
        rcases List.mem_cons.1 hc with rfl | hc
        · exact h1
        · exact a1 c hc
      · rw [encL_cons, ← a3, Int.toNat_natCast]
        have e1 : r.take (getW r + allW f (r.drop (getW r))) = r.take (getW r) ++ (r.drop (getW r)).take (allW f (r.drop (getW r))) := List.take_add
        rw [e1]
        congr 1
        rw [h2]
        rw [congrArg (List.take (encN (getC r)).length) h3]
        exact List.take_left
    · have hn : r.length = 0 ∨ getE r ≠ 0 := .inr he
      rw [allL, allW, allE, if_pos hn, if_pos hn, if_neg h0, if_pos he]
      exact ⟨by simp, by omega, rfl, by simp, fun h => absurd h he, fun _ => by rw [List.drop_zero]⟩

theorem runes_eq : ∀ (l : List Int) (s : ByteArray), (∀ c ∈ l, scal c) → l.foldl (fun r n => r ++ Utf8.encode n) s = s ++ strN (encL l)
  | [], s, _ => by
    rw [encL_nil]
    have : strN [] = ByteArray.empty := rfl
    rw [this]; simp
  | c :: l, s, h => by
    rw [List.foldl_cons, runes_eq l _ (fun x hx => h x (by simp [hx])), encL_cons]
    have hc := h c (by simp)
    have e : Utf8.encode c = strN (encN c.toNat) := by
      have := encode_eq (scal_nat hc)
      rwa [Int.toNat_of_nonneg hc.1] at this
    rw [e]
    unfold strN
    rw [ByteArray.append_assoc]
    congr 1
    apply ByteArray.ext
    simp [ByteArray.data_append]
theorem runesBytes_eq {l : List Int} (h : ∀ c ∈ l, scal c) : runesBytes l = strN (encL l) := by
  unfold runesBytes
  rw [runes_eq l _ h]
  simp

theorem get!_nums (s : ByteArray) (k : Nat) : (s.get! k).toNat = gN (nums s) k := by
  by_cases h : k < s.size
  · rw [← nums_at s k h]
    simp [ByteArray.get!, getElem!_pos, h]
    rfl
  · unfold gN nums
    rw [List.getElem?_eq_none (by rw [List.length_map]; simpa using Nat.le_of_not_lt h)]
    simp [ByteArray.get!]
    rw [getElem!_neg _ _ (by simpa using h)]
    rfl
/-- What the language itself reads at a character's place. -/
theorem decode_enc {s : ByteArray} {pos c : Nat} {m : List Nat} (h : scal c) (hd : (nums s).drop pos = encN c ++ m) : Utf8.decode s pos = (c, (encN c).length) := by
  have hg : ∀ k, gN (nums s) (pos + k) = gN (encN c ++ m) k := fun k => by rw [← hd]; unfold gN; rw [List.getElem?_drop]
  have hz : ∀ k, (pos + k < s.size) ↔ k < (encN c ++ m).length := fun k => by rw [← hd, List.length_drop, nums_len]; omega
  unfold Utf8.decode
  simp only [get!_nums, hg]
  have hcont : ∀ k, decide (pos + k < s.size) = decide (k < (encN c ++ m).length) := fun k => by rw [decide_eq_decide]; exact hz k
  simp only [hcont]
  have hv : Utf8.valid (c : Int) = true := by
    obtain ⟨h0, h1, h2⟩ := h
    unfold Utf8.valid
    rcases h2 with h2 | h2
    · simp; omega
    · simp; omega
  obtain ⟨h0, h1, h2⟩ := h
  unfold encN
  split
  · rename_i c1
    rw [List.cons_append, gN_zero, if_pos c1]; rfl
  split
  · rename_i c1 c2
    rw [List.cons_append, gN_zero, if_neg (by omega)]
    have e1 : (192 + c / 64) / 32 = 6 := by omega
    have e2 : (128 + c % 64) / 64 = 2 := by omega
    have e3 : ((192 + c / 64) % 32) * 64 + (128 + c) % 64 = c := by omega
    simp [gN, e1, e2]
    rw [e3, if_pos (by omega)]
  split
  · rename_i c1 c2 c3
    rw [List.cons_append, gN_zero, if_neg (by omega)]
    have e0 : ¬ (224 + c / 4096) / 32 = 6 := by omega
    have e1 : (224 + c / 4096) / 16 = 14 := by omega
    have e2 : (128 + c / 64 % 64) / 64 = 2 := by omega
    have e4 : (128 + c % 64) / 64 = 2 := by omega
    have e3 : ((224 + c / 4096) % 16) * 4096 + (128 + c / 64) % 64 * 64 + (128 + c) % 64 = c := by omega
    have e9 : ((224 + (c : Int) / 4096) % 16) * 4096 + (128 + (c : Int) / 64) % 64 * 64 + (128 + (c : Int)) % 64 = c := by omega
    simp [gN, e0, e1, e2, e4]
    rw [e3, e9, if_pos ⟨by omega, hv⟩]
  · rename_i c1 c2 c3
    rw [List.cons_append, gN_zero, if_neg (by omega)]
    have e0 : ¬ (240 + c / 262144) / 32 = 6 := by omega
    have e5 : ¬ (240 + c / 262144) / 16 = 14 := by omega
    have e1 : (240 + c / 262144) / 8 = 30 := by omega
    have e2 : (128 + c / 4096 % 64) / 64 = 2 := by omega
    have e4 : (128 + c / 64 % 64) / 64 = 2 := by omega
    have e6 : (128 + c % 64) / 64 = 2 := by omega
    have e3 : ((240 + c / 262144) % 8) * 262144 + (128 + c / 4096) % 64 * 4096 + (128 + c / 64) % 64 * 64 + (128 + c) % 64 = c := by omega
    have e9 : ((240 + (c : Int) / 262144) % 8) * 262144 + (128 + (c : Int) / 4096) % 64 * 4096 + (128 + (c : Int) / 64) % 64 * 64 + (128 + (c : Int)) % 64 = c := by omega
    simp [gN, e0, e1, e2, e4, e5, e6]
    rw [e3, e9, if_pos ⟨by omega, hv⟩]
end Go.Proofs.Ytbgegkagnahlpaa
