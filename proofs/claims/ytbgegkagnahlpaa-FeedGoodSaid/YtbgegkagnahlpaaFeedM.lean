/-
  The machine that takes byte by byte, in plain Lean.
-/
import Derived.Test.YtbgegkagnahlpaaUtfH
namespace Go.Proofs.Ytbgegkagnahlpaa
set_option linter.unusedVariables false
set_option linter.unusedSimpArgs false

def secL (b : Nat) : Nat := if b = 224 then 160 else if b = 240 then 144 else 128
def secH (b : Nat) : Nat := if b = 237 then 159 else if b = 244 then 143 else 191
def whF (b : Nat) : Nat := if b < 128 then 1 else if 194 ≤ b ∧ b ≤ 223 then 2 else if 224 ≤ b ∧ b ≤ 239 then 3 else if 240 ≤ b ∧ b ≤ 244 then 4 else 0
def fitsF (ah : List Nat) (b : Nat) : Prop := if ah.length = 1 then secL (gN ah 0) ≤ b ∧ b ≤ secH (gN ah 0) else 128 ≤ b ∧ b ≤ 191
instance (ah : List Nat) (b : Nat) : Decidable (fitsF ah b) := by unfold fitsF; exact inferInstance

/-- What is ahead, and what has come out. -/
structure Mch where
  ah : List Nat
  out : List Int

def brkF (m : Mch) : Mch := if m.ah.length = 0 then m else ⟨[], m.out ++ [65533]⟩
def putM (m : Mch) (b : Nat) : Mch :=
  if m.ah.length = 0 ∧ whF b = 0 then ⟨m.ah, m.out ++ [65533]⟩
  else if (m.ah ++ [b]).length = whF (gN (m.ah ++ [b]) 0) then ⟨[], m.out ++ [(getC (m.ah ++ [b]) : Int)]⟩ else ⟨m.ah ++ [b], m.out⟩
def tkF (m : Mch) (b : Nat) : Mch := putM (if m.ah.length ≠ 0 ∧ ¬ fitsF m.ah b then brkF m else m) b
def runM (l : List Nat) (m : Mch) : Mch := l.foldl tkF m
theorem runM_nil (m : Mch) : runM [] m = m := rfl
theorem runM_cons (b : Nat) (l : List Nat) (m : Mch) : runM (b :: l) m = runM l (tkF m b) := rfl
theorem runM_app (l k : List Nat) (m : Mch) : runM (l ++ k) m = runM k (runM l m) := by unfold runM; rw [List.foldl_append]
theorem runM_snoc (l : List Nat) (b : Nat) (m : Mch) : runM (l ++ [b]) m = tkF (runM l m) b := by rw [runM_app]; rfl

/-- The beginning of a character. -/
def Pre : List Nat → Prop
  | [] => True
  | [a] => 2 ≤ whF a
  | [a, b] => 3 ≤ whF a ∧ fitsF [a] b
  | [a, b, c] => 4 ≤ whF a ∧ fitsF [a] b ∧ fitsF [a, b] c
  | _ => False
theorem whF_le (b : Nat) : whF b ≤ 4 := by unfold whF; split <;> (try split) <;> (try split) <;> (try split) <;> omega
theorem wh1 {b : Nat} : whF b = 1 ↔ b < 128 := by unfold whF; split <;> (try split) <;> (try split) <;> (try split) <;> omega
theorem wh2 {b : Nat} : whF b = 2 ↔ 194 ≤ b ∧ b ≤ 223 := by unfold whF; split <;> (try split) <;> (try split) <;> (try split) <;> omega
theorem wh3 {b : Nat} : whF b = 3 ↔ 224 ≤ b ∧ b ≤ 239 := by unfold whF; split <;> (try split) <;> (try split) <;> (try split) <;> omega
theorem wh4 {b : Nat} : whF b = 4 ↔ 240 ≤ b ∧ b ≤ 244 := by unfold whF; split <;> (try split) <;> (try split) <;> (try split) <;> omega
theorem fit1 {a b : Nat} : fitsF [a] b ↔ secL a ≤ b ∧ b ≤ secH a := by unfold fitsF; rw [if_pos (show [a].length = 1 from rfl)]; rfl
theorem fit2 {a b c : Nat} : fitsF [a, b] c ↔ 128 ≤ c ∧ c ≤ 191 := by unfold fitsF; rw [if_neg (by simp)]
theorem fit3 {a b c d : Nat} : fitsF [a, b, c] d ↔ 128 ≤ d ∧ d ≤ 191 := by unfold fitsF; rw [if_neg (by simp)]
theorem sec_in (a : Nat) : 128 ≤ secL a ∧ secL a ≤ secH a ∧ secH a ≤ 191 := by
  unfold secL secH
  split <;> (try split) <;> (try split) <;> (try split) <;> omega
theorem sec_e0 : secL 224 = 160 := rfl
theorem sec_ed : secH 237 = 159 := rfl
theorem sec_f0 : secL 240 = 144 := rfl
theorem sec_f4 : secH 244 = 143 := rfl

/-- What is whole is a character's bytes. -/
theorem full1 {a : Nat} (h : whF a = 1) : scal a ∧ [a] = encN a := by
  have := wh1.1 h
  exact ⟨⟨by omega, by omega, by omega⟩, by unfold encN; rw [if_pos this]⟩
set_option maxRecDepth 20000 in
theorem full2 {a b : Nat} (h : whF a = 2) (hb : fitsF [a] b) : ∃ c : Nat, scal c ∧ [a, b] = encN c ∧ 128 ≤ c := by
  obtain ⟨h1, h2⟩ := wh2.1 h
  obtain ⟨h3, h4⟩ := fit1.1 hb
  obtain ⟨s1, s2, s3⟩ := sec_in a
  refine ⟨(a - 192) * 64 + (b - 128), ⟨by omega, by omega, by omega⟩, ?_, by omega⟩
  unfold encN
  rw [if_neg (by omega), if_pos (by omega)]
  congr 1
  · omega
  · congr 1; omega
set_option maxRecDepth 20000 in
theorem full3 {a b d : Nat} (h : whF a = 3) (hb : fitsF [a] b) (hd : fitsF [a, b] d) : ∃ c : Nat, scal c ∧ [a, b, d] = encN c ∧ 128 ≤ c := by
  obtain ⟨h1, h2⟩ := wh3.1 h
  obtain ⟨h3, h4⟩ := fit1.1 hb
  obtain ⟨h5, h6⟩ := fit2.1 hd
  obtain ⟨s1, s2, s3⟩ := sec_in a
  have hlow : a = 224 → 160 ≤ b := fun e => by subst e; rw [sec_e0] at h3; exact h3
  have hhigh : a = 237 → b ≤ 159 := fun e => by subst e; rw [sec_ed] at h4; exact h4
  refine ⟨(a - 224) * 4096 + (b - 128) * 64 + (d - 128), ⟨by omega, by omega, by omega⟩, ?_, by omega⟩
  unfold encN
  rw [if_neg (by omega), if_neg (by omega), if_pos (by omega)]
  congr 1
  · omega
  · congr 1
    · omega
    · congr 1; omega
set_option maxRecDepth 20000 in
theorem full4 {a b d e : Nat} (h : whF a = 4) (hb : fitsF [a] b) (hd : fitsF [a, b] d) (he : fitsF [a, b, d] e) : ∃ c : Nat, scal c ∧ [a, b, d, e] = encN c ∧ 128 ≤ c := by
  obtain ⟨h1, h2⟩ := wh4.1 h
  obtain ⟨h3, h4⟩ := fit1.1 hb
  obtain ⟨h5, h6⟩ := fit2.1 hd
  obtain ⟨h7, h8⟩ := fit3.1 he
  obtain ⟨s1, s2, s3⟩ := sec_in a
  have hlow : a = 240 → 144 ≤ b := fun e => by subst e; rw [sec_f0] at h3; exact h3
  have hhigh : a = 244 → b ≤ 143 := fun e => by subst e; rw [sec_f4] at h4; exact h4
  refine ⟨(a - 240) * 262144 + (b - 128) * 4096 + (d - 128) * 64 + (e - 128), ⟨by omega, by omega, by omega⟩, ?_, by omega⟩
  unfold encN
  rw [if_neg (by omega), if_neg (by omega), if_neg (by omega)]
  congr 1
  · omega
  · congr 1
    · omega
    · congr 1
      · omega
      · congr 1; omega

/-- Nothing ahead: one byte. -/
theorem put_zero (out : List Int) (b : Nat) : putM ⟨[], out⟩ b = if whF b = 0 then ⟨[], out ++ [65533]⟩ else if whF b = 1 then ⟨[], out ++ [(b : Int)]⟩ else ⟨[b], out⟩ := by
  unfold putM
  simp only [List.length_nil, true_and, List.nil_append, List.length_cons, Nat.zero_add]
  by_cases h : whF b = 0
  · rw [if_pos h, if_pos h]
  · rw [if_neg h, if_neg h]
    have e : gN [b] 0 = b := rfl
    rw [e]
    by_cases h1 : whF b = 1
    · rw [if_pos h1.symm, if_pos h1]
      obtain ⟨k1, k2⟩ := full1 h1
      have := getC_enc k1 []
      rw [List.append_nil, ← k2] at this
      rw [this]
    · rw [if_neg (fun h2 => h1 h2.symm), if_neg h1]
theorem tk_zero (out : List Int) (b : Nat) : tkF ⟨[], out⟩ b = putM ⟨[], out⟩ b := by unfold tkF; rw [if_neg (by simp)]
theorem tk_break {ah : List Nat} (out : List Int) {b : Nat} (h0 : ah ≠ []) (h : ¬ fitsF ah b) : tkF ⟨ah, out⟩ b = putM ⟨[], out ++ [65533]⟩ b := by
  have hl : ah.length ≠ 0 := fun e => h0 (List.length_eq_zero_iff.1 e)
  unfold tkF brkF
  rw [if_pos ⟨hl, h⟩]
  simp only
  rw [if_neg hl]
theorem tk_fit {ah : List Nat} (out : List Int) {b : Nat} (h0 : ah ≠ []) (h : fitsF ah b) : tkF ⟨ah, out⟩ b = if (ah ++ [b]).length = whF (gN (ah ++ [b]) 0) then ⟨[], out ++ [(getC (ah ++ [b]) : Int)]⟩ else ⟨ah ++ [b], out⟩ := by
  have hl : ah.length ≠ 0 := fun e => h0 (List.length_eq_zero_iff.1 e)
  unfold tkF
  rw [if_neg (fun hh => hh.2 h)]
  unfold putM
  rw [if_neg (fun hh => hl hh.1)]

theorem out_add (ah : List Nat) (out : List Int) (b : Nat) : tkF ⟨ah, out⟩ b = ⟨(tkF ⟨ah, []⟩ b).ah, out ++ (tkF ⟨ah, []⟩ b).out⟩ := by
  have hz : ∀ o, putM ⟨[], o⟩ b = ⟨(putM ⟨[], []⟩ b).ah, o ++ (putM ⟨[], []⟩ b).out⟩ := fun o => by
    rw [put_zero, put_zero]
    split
    · simp
    · split <;> simp
  by_cases h0 : ah = []
  · subst h0
    rw [tk_zero, tk_zero]
    exact hz out
  · by_cases h : fitsF ah b
    · rw [tk_fit _ h0 h, tk_fit _ h0 h]
      split <;> simp
    · rw [tk_break _ h0 h, tk_break _ h0 h, hz, hz ([] ++ [65533])]
      simp
theorem run_add : ∀ (l : List Nat) (ah : List Nat) (out : List Int), runM l ⟨ah, out⟩ = ⟨(runM l ⟨ah, []⟩).ah, out ++ (runM l ⟨ah, []⟩).out⟩
  | [], ah, out => by simp [runM_nil]
  | b :: l, ah, out => by
    rw [runM_cons, runM_cons, out_add, run_add l]
    have h2 := run_add l (tkF ⟨ah, []⟩ b).ah (tkF ⟨ah, []⟩ b).out
    have e : (⟨(tkF ⟨ah, []⟩ b).ah, (tkF ⟨ah, []⟩ b).out⟩ : Mch) = tkF ⟨ah, []⟩ b := rfl
    rw [e] at h2
    rw [h2]
    simp

/-- One step from the beginning of a character: a beginning again; what comes out are characters, no more than one for what was ahead and one for the byte. -/
theorem tk_pre {ah : List Nat} {b : Nat} (hp : Pre ah) : Pre (tkF ⟨ah, []⟩ b).ah ∧ (∀ c ∈ (tkF ⟨ah, []⟩ b).out, scal c) ∧ (tkF ⟨ah, []⟩ b).out.length + min 1 (tkF ⟨ah, []⟩ b).ah.length ≤ min 1 ah.length + 1 := by
  have hbad : scal 65533 := by decide
  have hz : ∀ o : List Int, (∀ c ∈ o, scal c) → Pre (putM ⟨[], o⟩ b).ah ∧ (∀ c ∈ (putM ⟨[], o⟩ b).out, scal c) ∧ (putM ⟨[], o⟩ b).out.length + min 1 (putM ⟨[], o⟩ b).ah.length ≤ o.length + 1 := fun o ho => by
    rw [put_zero]
    split
    · refine ⟨trivial, fun c hc => ?_, by simp⟩
      rcases List.mem_append.1 hc with hc | hc
      · exact ho c hc
      · obtain rfl := List.mem_singleton.1 hc; exact hbad
    · split
      · rename_i h0 h1
        refine ⟨trivial, fun c hc => ?_, by simp⟩
        rcases List.mem_append.1 hc with hc | hc
        · exact ho c hc
        · obtain rfl := List.mem_singleton.1 hc; exact (full1 h1).1
      · rename_i h0 h1
        exact ⟨show 2 ≤ whF b by omega, ho, by simp⟩
  by_cases h0 : ah = []
  · subst h0
    rw [tk_zero]
    have := hz [] (by simp)
    simpa using this
  · by_cases h : fitsF ah b
    · rw [tk_fit _ h0 h]
      match ah, hp, h, h0 with
      | [a], hp, h, _ =>
        have e : gN ([a] ++ [b]) 0 = a := rfl
        rw [e]
        by_cases hw : whF a = 2
        · rw [if_pos (by rw [hw]; rfl)]
          obtain ⟨c, k1, k2, _⟩ := full2 hw h
          have hg := getC_enc k1 []
          rw [List.append_nil, ← k2] at hg
          refine ⟨trivial, fun x hx => ?_, by simp⟩
          simp only [List.nil_append, List.cons_append, List.mem_singleton] at hx
          subst hx
          rw [hg]
          exact k1
        · rw [if_neg (by simp; omega)]
          exact ⟨⟨by have : 2 ≤ whF a := hp; omega, h⟩, by simp, by simp⟩
      | [a, d], hp, h, _ =>
        have e : gN ([a, d] ++ [b]) 0 = a := rfl
        rw [e]
        obtain ⟨p1, p2⟩ := hp
        by_cases hw : whF a = 3
        · rw [if_pos (by rw [hw]; rfl)]
          obtain ⟨c, k1, k2, _⟩ := full3 hw p2 h
          have hg := getC_enc k1 []
          rw [List.append_nil, ← k2] at hg
          refine ⟨trivial, fun x hx => ?_, by simp⟩
          simp only [List.nil_append, List.cons_append, List.mem_singleton] at hx
          subst hx
          rw [hg]
          exact k1
        · rw [if_neg (by simp; omega)]
          exact ⟨⟨by omega, p2, h⟩, by simp, by simp⟩
      | [a, d, f], hp, h, _ =>
        have e : gN ([a, d, f] ++ [b]) 0 = a := rfl
        rw [e]
        obtain ⟨p1, p2, p3⟩ := hp
        have hw : whF a = 4 := by have := whF_le a; omega
        rw [if_pos (by rw [hw]; rfl)]
        obtain ⟨c, k1, k2, _⟩ := full4 hw p2 p3 h
        have hg := getC_enc k1 []
        rw [List.append_nil, ← k2] at hg
        refine ⟨trivial, fun x hx => ?_, by simp⟩
        simp only [List.nil_append, List.cons_append, List.mem_singleton] at hx
        subst hx
        rw [hg]
        exact k1
    · rw [tk_break _ h0 h]
      obtain ⟨k1, k2, k3⟩ := hz ([] ++ [65533]) (by simpa using hbad)
      refine ⟨k1, k2, ?_⟩
      have hl : 0 < ah.length := by cases ah with | nil => exact absurd rfl h0 | cons _ _ => simp
      simp only [List.nil_append, List.length_singleton] at k3
      simp only [List.nil_append]
      omega

/-- The beginning of a character, taken, stands ahead. -/
theorem run_pre {ah : List Nat} (hp : Pre ah) : runM ah ⟨[], []⟩ = ⟨ah, []⟩ := by
  have h1 : ∀ a, 2 ≤ whF a → tkF ⟨[], []⟩ a = ⟨[a], []⟩ := fun a h => by rw [tk_zero, put_zero, if_neg (by omega), if_neg (by omega)]
  have h2 : ∀ a b, 3 ≤ whF a → fitsF [a] b → tkF ⟨[a], []⟩ b = ⟨[a, b], []⟩ := fun a b h hf => by
    rw [tk_fit _ (by simp) hf, if_neg]; · rfl
    show ¬ 2 = whF a; omega
  have h3 : ∀ a b c, 4 ≤ whF a → fitsF [a, b] c → tkF ⟨[a, b], []⟩ c = ⟨[a, b, c], []⟩ := fun a b c h hf => by
    rw [tk_fit _ (by simp) hf, if_neg]; · rfl
    show ¬ 3 = whF a; omega
  match ah, hp with
  | [], _ => rfl
  | [a], hp => rw [runM_cons, h1 a hp]; rfl
  | [a, b], ⟨p1, p2⟩ => rw [runM_cons, h1 a (by omega), runM_cons, h2 a b p1 p2]; rfl
  | [a, b, c], ⟨p1, p2, p3⟩ => rw [runM_cons, h1 a (by omega), runM_cons, h2 a b (by omega) p2, runM_cons, h3 a b c p1 p3]; rfl

theorem run_all : ∀ (l : List Nat) (ah : List Nat), Pre ah → Pre (runM l ⟨ah, []⟩).ah ∧ (∀ c ∈ (runM l ⟨ah, []⟩).out, scal c) ∧ (runM l ⟨ah, []⟩).out.length + min 1 (runM l ⟨ah, []⟩).ah.length ≤ min 1 ah.length + l.length
  | [], ah, h => ⟨h, by simp [runM_nil], by simp [runM_nil]⟩
  | b :: l, ah, h => by
    obtain ⟨k1, k2, k3⟩ := tk_pre (b := b) h
    obtain ⟨m1, m2, m3⟩ := run_all l _ k1
    have e : runM (b :: l) ⟨ah, []⟩ = ⟨(runM l ⟨(tkF ⟨ah, []⟩ b).ah, []⟩).ah, (tkF ⟨ah, []⟩ b).out ++ (runM l ⟨(tkF ⟨ah, []⟩ b).ah, []⟩).out⟩ := by
      rw [runM_cons]
      exact run_add l _ _
    rw [e]
    refine ⟨m1, fun c hc => ?_, by simp only [List.length_append, List.length_cons]; omega⟩
    rcases List.mem_append.1 hc with hc | hc
    · exact k2 c hc
    · exact m2 c hc
/-- What is ahead is how the bytes end. -/
theorem run_tail : ∀ (l : List Nat) (ah : List Nat), ∃ p, ah ++ l = p ++ (runM l ⟨ah, []⟩).ah
  | [], ah => ⟨[], by simp [runM_nil]⟩
  | b :: l, ah => by
    have e : (runM (b :: l) ⟨ah, []⟩).ah = (runM l ⟨(tkF ⟨ah, []⟩ b).ah, []⟩).ah := by
      rw [runM_cons]
      have := run_add l (tkF ⟨ah, []⟩ b).ah (tkF ⟨ah, []⟩ b).out
      rw [show (⟨(tkF ⟨ah, []⟩ b).ah, (tkF ⟨ah, []⟩ b).out⟩ : Mch) = tkF ⟨ah, []⟩ b from rfl] at this
      rw [this]
    have hs : ∃ p, ah ++ [b] = p ++ (tkF ⟨ah, []⟩ b).ah := by
      have hz : ∀ o, ∃ p, [b] = p ++ (putM ⟨[], o⟩ b).ah := fun o => by
        rw [put_zero]
        split
        · exact ⟨[b], by simp⟩
        · split
          · exact ⟨[b], by simp⟩
          · exact ⟨[], by simp⟩
      by_cases h0 : ah = []
      · subst h0; rw [tk_zero]; exact hz []
      · by_cases h : fitsF ah b
        · rw [tk_fit _ h0 h]
          split
          · exact ⟨ah ++ [b], by simp⟩
          · exact ⟨[], by simp⟩
        · rw [tk_break _ h0 h]
          obtain ⟨p, hp⟩ := hz ([] ++ [65533])
          exact ⟨ah ++ p, by rw [List.append_assoc, ← hp]⟩
    obtain ⟨p, hp⟩ := hs
    obtain ⟨q, hq⟩ := run_tail l (tkF ⟨ah, []⟩ b).ah
    refine ⟨p ++ q, ?_⟩
    rw [e, List.append_assoc, ← hq, ← List.append_assoc, ← hp, List.append_assoc]
    rfl

/-- A character's bytes are this character. -/
theorem run_char {c : Nat} (h : scal c) (out : List Int) : runM (encN c) ⟨[], out⟩ = ⟨[], out ++ [(c : Int)]⟩ := by
  have hg := getC_enc h []
  rw [List.append_nil] at hg
  obtain ⟨h0, h1, h2⟩ := h
  unfold encN at hg ⊢
  split
  · rename_i c1
    rw [runM_cons, tk_zero, put_zero, if_neg (by have := wh1.2 c1; omega), if_pos (wh1.2 c1)]; rfl
  rename_i c1
  rw [if_neg c1] at hg
  split
  · rename_i c2
    rw [if_pos c2] at hg
    have w1 : whF (192 + c / 64) = 2 := wh2.2 (by omega)
    rw [runM_cons, tk_zero, put_zero, if_neg (by omega), if_neg (by omega), runM_cons, tk_fit _ (by simp), if_pos]
    · rw [show ([192 + c / 64] ++ [128 + c % 64] : List Nat) = [192 + c / 64, 128 + c % 64] from rfl, hg]; rfl
    · show 2 = whF (192 + c / 64); omega
    · refine fit1.2 ?_
      unfold secL secH
      split <;> (try split) <;> (try split) <;> (try split) <;> omega
  rename_i c2
  rw [if_neg c2] at hg
  split
  · rename_i c3
    rw [if_pos c3] at hg
    have w1 : whF (224 + c / 4096) = 3 := wh3.2 (by omega)
    rw [runM_cons, tk_zero, put_zero, if_neg (by omega), if_neg (by omega), runM_cons, tk_fit _ (by simp), if_neg, runM_cons, tk_fit _ (by simp), if_pos]
    · rw [show ([224 + c / 4096] ++ [128 + c / 64 % 64] ++ [128 + c % 64] : List Nat) = [224 + c / 4096, 128 + c / 64 % 64, 128 + c % 64] from rfl, hg]; rfl
    · show 3 = whF (224 + c / 4096); omega
    · exact fit2.2 (by omega)
    · show ¬ 2 = whF (224 + c / 4096); omega
    · refine fit1.2 ?_
      unfold secL secH
      split <;> (try split) <;> (try split) <;> (try split) <;> omega
  · rename_i c3
    rw [if_neg c3] at hg
    have w1 : whF (240 + c / 262144) = 4 := wh4.2 (by omega)
    rw [runM_cons, tk_zero, put_zero, if_neg (by omega), if_neg (by omega), runM_cons, tk_fit _ (by simp), if_neg, runM_cons, tk_fit _ (by simp), if_neg, runM_cons, tk_fit _ (by simp), if_pos]
    · rw [show ([240 + c / 262144] ++ [128 + c / 4096 % 64] ++ [128 + c / 64 % 64] ++ [128 + c % 64] : List Nat) = [240 + c / 262144, 128 + c / 4096 % 64, 128 + c / 64 % 64, 128 + c % 64] from rfl, hg]; rfl
    · show 4 = whF (240 + c / 262144); omega
    · exact fit3.2 (by omega)
    · show ¬ 3 = whF (240 + c / 262144); omega
    · exact fit2.2 (by omega)
    · show ¬ 2 = whF (240 + c / 262144); omega
    · refine fit1.2 ?_
      unfold secL secH
      split <;> (try split) <;> (try split) <;> (try split) <;> omega
theorem run_text : ∀ (l : List Int) (out : List Int), (∀ c ∈ l, scal c) → runM (encL l) ⟨[], out⟩ = ⟨[], out ++ l⟩
  | [], out, _ => by simp [encL_nil, runM_nil]
  | c :: l, out, h => by
    have hc := h c (by simp)
    rw [encL_cons, runM_app, run_char (scal_nat hc), run_text l _ (fun x hx => h x (by simp [hx])), Int.toNat_of_nonneg hc.1]
    simp
end Go.Proofs.Ytbgegkagnahlpaa
