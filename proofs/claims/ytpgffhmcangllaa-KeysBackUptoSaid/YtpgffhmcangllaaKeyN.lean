/-
  Keys out of commands, in plain Lean: what is told can be written, and is told again.
-/
import Derived.Test.YtpgffhmcangllaaKeyA
namespace Go.Proofs.Ytpgffhmcangllaa
set_option linter.unusedVariables false
set_option linter.unusedSimpArgs false

def digsF (n : Int) : List Int := (if 100 ≤ n then [48 + n / 100 % 10] else []) ++ ((if 10 ≤ n then [48 + n / 10 % 10] else []) ++ (if 1 ≤ n then [48 + n % 10] else []))
def waitB (c : Cm) : Bool := if findB c.verb || c.verb == 114 then true else if c.verb == 105 || c.verb == 97 then c.op != 0 else false
def regF (c : Cm) : List Int := if c.reg = 0 then [] else [34, c.reg]
def opF (c : Cm) : List Int := if c.op = 0 then [] else [c.op]
def argF (c : Cm) : List Int := if waitB c = true then [c.arg] else []
def keysF (c : Cm) : List Int := regF c ++ (digsF c.count ++ (opF c ++ ([c.verb] ++ argF c)))
/-- A command that is told. -/
def Told (c : Cm) : Prop :=
  0 ≤ c.count ∧ c.count ≤ 999 ∧ (c.reg = 0 ∨ letB c.reg = true) ∧ (c.op = 0 ∨ opeB c.op = true) ∧
    ((c.op ≠ 0 ∧ c.verb = c.op ∧ c.arg = 0) ∨ (motB c.verb = true ∧ c.arg = 0 ∧ (c.verb = 48 → c.op = 0 → c.count = 0)) ∨ (c.op = 0 ∧ c.arg = 0 ∧ (plainB c.verb = true ∨ c.verb = 105 ∨ c.verb = 97)) ∨
     (findB c.verb = true ∧ 32 ≤ c.arg ∧ c.arg ≠ 127) ∨ (c.op = 0 ∧ c.verb = 114 ∧ 32 ≤ c.arg ∧ c.arg ≠ 127) ∨ (c.op ≠ 0 ∧ (c.verb = 105 ∨ c.verb = 97) ∧ objB c.arg = true ∧ 32 ≤ c.arg ∧ c.arg ≠ 127))

theorem letB_spec {c : Int} (h : letB c = true) : (97 ≤ c ∧ c ≤ 122) ∨ (65 ≤ c ∧ c ≤ 90) := by
  unfold letB at h
  split at h
  · exact .inl ‹_›
  · exact .inr (by simpa using h)
theorem opeB_spec {c : Int} (h : opeB c = true) : c = 100 ∨ c = 99 ∨ c = 121 := by
  unfold opeB at h
  simpa [or_assoc] using h
theorem chk_spec {p : Pt} (h : chkB p = true) : 0 ≤ p.first ∧ p.first ≤ 999 ∧ 0 ≤ p.second ∧ p.second ≤ 999 ∧ (p.op = 0 → p.second = 0) ∧ (p.reg = 0 ∨ letB p.reg = true) ∧ (p.op = 0 ∨ opeB p.op = true) ∧ waitsB p = true := by
  unfold chkB boundsB namesB at h
  simp at h
  obtain ⟨⟨⟨⟨⟨⟨h1, h2⟩, h3⟩, h4⟩, h5⟩, h6, h7⟩, h8⟩ := h
  refine ⟨h1, h2, h3, h4, fun ho => ?_, h6, h7, h8⟩
  rcases h5 with h | h
  · omega
  · exact absurd ho h
theorem tot_bd {p : Pt} (h : chkB p = true) : 0 ≤ totF p ∧ totF p ≤ 999 := by
  obtain ⟨h1, h2, h3, h4, _⟩ := chk_spec h
  unfold totF
  split
  · exact ⟨h3, h4⟩
  · split
    · exact ⟨h1, h2⟩
    · have := Int.mul_nonneg h1 h3
      omega

theorem told_of {p : Pt} {k : Int} (h : chkB p = true) (h2 : (takeK p k).how = 2) : Told (takeK p k).c := by
  obtain ⟨t1, t2⟩ := tot_bd h
  obtain ⟨b1, b2, b3, b4, b5, b6, b7, b8⟩ := chk_spec h
  revert h2
  unfold takeK
  split
  · intro h2; simp [wrongT] at h2
  rename_i hk
  have hk1 : 32 ≤ k := by omega
  have hk2 : k ≠ 127 := by omega
  split
  · rename_i hw
    unfold awaitF
    split
    · split <;> intro h2 <;> simp [wrongT] at h2
    · rename_i h34
      have h34' : p.wait ≠ 34 := by simpa using h34
      split
      · rename_i hi
        split
        · rename_i ho
          intro _
          have hi' : p.wait = 105 ∨ p.wait = 97 := by simpa using hi
          have hop : p.op ≠ 0 := by
            unfold waitsB at b8
            rw [if_neg (by simp; omega), if_neg (by simp; omega), if_pos hi] at b8
            simpa using b8
          exact ⟨t1, t2, b6, b7, .inr (.inr (.inr (.inr (.inr ⟨hop, hi', ho, hk1, hk2⟩))))⟩
        · intro h2; simp [wrongT] at h2
      · rename_i hi
        intro _
        have hi' : p.wait ≠ 105 ∧ p.wait ≠ 97 := by simpa using hi
        unfold waitsB at b8
        split at b8
        · rename_i hf
          have hf' : findB p.wait = true := by
            simp at hf
            unfold findB
            simp
            omega
          exact ⟨t1, t2, b6, b7, .inr (.inr (.inr (.inl ⟨hf', hk1, hk2⟩)))⟩
        · split at b8
          · rename_i hr
            have hr' : p.wait = 114 := by
              simp at hr; omega
            have hop : p.op = 0 := by
              simp at b8; exact b8.1
            exact ⟨t1, t2, b6, b7, .inr (.inr (.inr (.inr (.inl ⟨hop, hr', hk1, hk2⟩))))⟩
          · cases b8
  · rename_i hw
    split
    · split <;> intro h2 <;> simp at h2
    · rename_i hk1'
      split
      · intro h2; simp at h2
      · split
        · split
          · intro h2; simp at h2
          · split
            · intro h2; simp [wrongT] at h2
            · rename_i ho hko
              have hko' : p.op = k := by simpa using hko
              intro _
              exact ⟨t1, t2, b6, b7, .inl ⟨ho, hko'.symm, rfl⟩⟩
        · split
          · rename_i h56
            intro _
            refine ⟨t1, t2, b6, b7, ?_⟩
            have hd : digB p k = false := by
              cases hd : digB p k with
              | false => rfl
              | true => exfalso; apply hk1'; unfold kindF; rw [if_pos hd]
            unfold kindF at h56
            rw [if_neg (by rw [hd]; simp)] at h56
            by_cases ho : opeB k = true
            · rw [if_pos ho] at h56; omega
            rw [if_neg ho] at h56
            by_cases hm : motB k = true
            · refine .inr (.inl ⟨hm, rfl, fun h48 h0 => ?_⟩)
              have h48' : k = 48 := h48
              have h0' : p.op = 0 := h0
              subst h48'
              unfold digB cntF at hd
              simp [h0'] at hd
              show totF p = 0
              unfold totF
              have : p.first = 0 := by omega
              rw [if_pos (by simpa using this)]
              exact b5 h0'
            rw [if_neg hm] at h56
            by_cases hf : findB k = true
            · rw [if_pos hf] at h56; omega
            rw [if_neg hf] at h56
            by_cases hi : (k == 105 || k == 97) = true
            · rw [if_pos hi] at h56
              by_cases hp : p.op = 0
              · have hi2 : k = 105 ∨ k = 97 := by simpa using hi
                exact .inr (.inr (.inl ⟨hp, rfl, .inr hi2⟩))
              · rw [if_pos (by simpa using hp)] at h56; omega
            rw [if_neg hi] at h56
            by_cases hp : p.op = 0
            · rw [if_neg (by simpa using hp)] at h56
              by_cases h34 : (k == 34) = true
              · rw [if_pos h34] at h56; split at h56 <;> omega
              rw [if_neg h34] at h56
              by_cases h114 : (k == 114) = true
              · rw [if_pos h114] at h56; omega
              rw [if_neg h114] at h56
              by_cases hpl : plainB k = true
              · exact .inr (.inr (.inl ⟨hp, rfl, .inl hpl⟩))
              · rw [if_neg hpl] at h56; omega
            · rw [if_pos (by simpa using hp)] at h56; omega
          · intro h2; simp [wrongT] at h2

theorem fold_nil (a : Al) : foldA a [] = a := rfl
theorem fold_cons (a : Al) (k : Int) (l : List Int) : foldA a (k :: l) = foldA (stepA a k) l := rfl
theorem step_more {a : Al} {k : Int} {p : Pt} {c : Cm} (h : takeK a.p k = ⟨p, c, 1⟩) : stepA a k = ⟨a.out, p, a.wrong⟩ := by unfold stepA; simp [h]
theorem step_done {a : Al} {k : Int} {p : Pt} {c : Cm} (h : takeK a.p k = ⟨p, c, 2⟩) : stepA a k = ⟨a.out ++ [c], p, a.wrong⟩ := by unfold stepA; simp [h]
theorem take_dig {f r k : Int} (h : (49 ≤ k ∧ k ≤ 57) ∨ (k = 48 ∧ 0 < f)) : takeK ⟨f, r, 0, 0, 0⟩ k = ⟨⟨countF f k, r, 0, 0, 0⟩, Cm.zero, 1⟩ := by
  have hd : digB ⟨f, r, 0, 0, 0⟩ k = true := by
    unfold digB cntF
    simp
    omega
  have hk : kindF ⟨f, r, 0, 0, 0⟩ k = 1 := by unfold kindF; rw [if_pos hd]
  unfold takeK
  rw [if_neg (by omega), if_neg (by simp), if_pos hk, if_neg (by simp)]
theorem fold_digs {r n : Int} (h0 : 0 ≤ n) (h9 : n ≤ 999) (o : List Cm) (wr : Nat) : foldA ⟨o, ⟨0, r, 0, 0, 0⟩, wr⟩ (digsF n) = ⟨o, ⟨n, r, 0, 0, 0⟩, wr⟩ := by
  have key : ∀ (f k : Int) (l : List Int), ((49 ≤ k ∧ k ≤ 57) ∨ (k = 48 ∧ 0 < f)) → foldA ⟨o, ⟨f, r, 0, 0, 0⟩, wr⟩ (k :: l) = foldA ⟨o, ⟨countF f k, r, 0, 0, 0⟩, wr⟩ l := by
    intro f k l h
    rw [fold_cons, step_more (take_dig h)]
  unfold digsF
  by_cases h100 : 100 ≤ n
  · rw [if_pos h100, if_pos (by omega), if_pos (by omega)]
    simp only [List.cons_append, List.nil_append]
    rw [key _ _ _ (by omega), key _ _ _ (by unfold countF; omega), key _ _ _ (by unfold countF; omega), fold_nil]
    congr 2
    unfold countF; omega
  · rw [if_neg h100]
    by_cases h10 : 10 ≤ n
    · rw [if_pos h10, if_pos (by omega)]
      simp only [List.cons_append, List.nil_append]
      rw [key _ _ _ (by omega), key _ _ _ (by unfold countF; omega), fold_nil]
      congr 2
      unfold countF; omega
    · rw [if_neg h10]
      by_cases h1 : 1 ≤ n
      · rw [if_pos h1]
        simp only [List.cons_append, List.nil_append]
        rw [key _ _ _ (by omega), fold_nil]
        congr 2
        unfold countF; omega
      · rw [if_neg h1]
        obtain rfl : n = 0 := by omega
        rfl
theorem fold_reg {c : Cm} (h : c.reg = 0 ∨ letB c.reg = true) : foldA ⟨[], Pt.zero, 0⟩ (regF c) = ⟨[], ⟨0, c.reg, 0, 0, 0⟩, 0⟩ := by
  unfold regF
  by_cases h0 : c.reg = 0
  · rw [if_pos h0, fold_nil, h0]; rfl
  · rw [if_neg h0]
    have hl : letB c.reg = true := by rcases h with h | h; exact absurd h h0; exact h
    have hb := letB_spec hl
    rw [fold_cons, step_more (p := ⟨0, 0, 0, 0, 34⟩) (c := Cm.zero) (by rfl), fold_cons, step_more (p := ⟨0, c.reg, 0, 0, 0⟩) (c := Cm.zero), fold_nil]
    show takeK ⟨0, 0, 0, 0, 34⟩ c.reg = _
    unfold takeK awaitF
    rw [if_neg (by omega), if_pos (by simp), if_pos (by simp), if_pos hl]
theorem take_op {f r k : Int} (h : opeB k = true) : takeK ⟨f, r, 0, 0, 0⟩ k = ⟨⟨f, r, k, 0, 0⟩, Cm.zero, 1⟩ := by
  have hs := opeB_spec h
  have hd : digB ⟨f, r, 0, 0, 0⟩ k = false := by
    unfold digB
    simp
    omega
  have hk : kindF ⟨f, r, 0, 0, 0⟩ k = 3 := by unfold kindF; rw [if_neg (by rw [hd]; simp), if_pos h]
  unfold takeK
  rw [if_neg (by omega), if_neg (by simp), if_neg (by rw [hk]; omega), if_neg (by rw [hk]; omega), if_pos hk, if_pos rfl]
theorem fold_op {c : Cm} (h : c.op = 0 ∨ opeB c.op = true) (f r : Int) : foldA ⟨[], ⟨f, r, 0, 0, 0⟩, 0⟩ (opF c) = ⟨[], ⟨f, r, c.op, 0, 0⟩, 0⟩ := by
  unfold opF
  by_cases h0 : c.op = 0
  · rw [if_pos h0, fold_nil, h0]
  · rw [if_neg h0, fold_cons, step_more (take_op (by rcases h with h | h; exact absurd h h0; exact h)), fold_nil]
theorem tot_one (f r o w : Int) : totF ⟨f, r, o, 0, w⟩ = f := by
  unfold totF
  simp only
  split
  · rename_i h; simp at h; omega
  · rw [if_pos (by simp)]
theorem dig_none {f r o k : Int} (h : k < 48 ∨ 57 < k ∨ (k = 48 ∧ (o = 0 → f ≤ 0))) : digB ⟨f, r, o, 0, 0⟩ k = false := by
  unfold digB cntF
  simp only [Bool.or_eq_false_iff, Bool.and_eq_false_iff, decide_eq_false_iff_not, beq_eq_false_iff_ne]
  refine ⟨by omega, ?_⟩
  by_cases hk : k = 48
  · right
    by_cases ho : o = 0
    · subst ho
      simp
      omega
    · rw [if_neg (by simpa using ho)]
      omega
  · exact .inl hk
theorem take_done {f r o k : Int} (hb : 32 ≤ k ∧ k ≠ 127) (h : kindF ⟨f, r, o, 0, 0⟩ k = 5 ∨ kindF ⟨f, r, o, 0, 0⟩ k = 6) : takeK ⟨f, r, o, 0, 0⟩ k = ⟨Pt.zero, ⟨f, r, o, k, 0⟩, 2⟩ := by
  unfold takeK
  rw [if_neg (by omega), if_neg (by simp), if_neg (by omega), if_neg (by omega), if_neg (by omega), if_pos h]
  unfold cmdF
  rw [tot_one]
theorem take_wait {f r o k : Int} (hb : 32 ≤ k ∧ k ≠ 127) (h : kindF ⟨f, r, o, 0, 0⟩ k = 4 ∨ kindF ⟨f, r, o, 0, 0⟩ k = 7 ∨ kindF ⟨f, r, o, 0, 0⟩ k = 8) : takeK ⟨f, r, o, 0, 0⟩ k = ⟨⟨f, r, o, 0, k⟩, Cm.zero, 1⟩ := by
  unfold takeK
  rw [if_neg (by omega), if_neg (by simp), if_neg (by omega), if_pos (by omega)]
theorem motB_spec {k : Int} (h : motB k = true) : k = 104 ∨ k = 108 ∨ k = 48 ∨ k = 94 ∨ k = 36 ∨ k = 124 ∨ k = 119 ∨ k = 87 ∨ k = 98 ∨ k = 66 ∨ k = 101 ∨ k = 69 ∨ k = 37 ∨ k = 59 ∨ k = 44 := by
  unfold motB at h
  simpa [or_assoc] using h
theorem findB_spec {k : Int} (h : findB k = true) : k = 102 ∨ k = 70 ∨ k = 116 ∨ k = 84 := by
  unfold findB at h
  simpa [or_assoc] using h
theorem plainB_spec {k : Int} (h : plainB k = true) : k = 73 ∨ k = 65 ∨ k = 115 ∨ k = 83 ∨ k = 67 ∨ k = 68 ∨ k = 120 ∨ k = 88 ∨ k = 112 ∨ k = 80 ∨ k = 89 ∨ k = 126 ∨ k = 117 ∨ k = 85 ∨ k = 46 ∨ k = 106 ∨ k = 107 ∨ k = 71 ∨ k = 47 ∨ k = 63 ∨ k = 110 ∨ k = 78 ∨ k = 82 := by
  unfold plainB at h
  simpa [or_assoc] using h

theorem told_again {c : Cm} (h : Told c) : allA (keysF c) = ⟨[c], Pt.zero, 0⟩ := by
  obtain ⟨h0, h9, hr, ho, hv⟩ := h
  unfold allA keysF
  rw [foldA_app, fold_reg hr, foldA_app, fold_digs h0 h9, foldA_app, fold_op ho]
  obtain ⟨f, r, o, v, a⟩ := c
  simp only at h0 h9 hr ho hv ⊢
  have done_ : waitB ⟨f, r, o, v, a⟩ = false → a = 0 → 32 ≤ v → v ≠ 127 → (kindF ⟨f, r, o, 0, 0⟩ v = 5 ∨ kindF ⟨f, r, o, 0, 0⟩ v = 6) → foldA ⟨[], ⟨f, r, o, 0, 0⟩, 0⟩ ([v] ++ argF ⟨f, r, o, v, a⟩) = ⟨[⟨f, r, o, v, a⟩], Pt.zero, 0⟩ := by
    intro hw ha h1 h2 hk
    unfold argF
    rw [if_neg (by rw [hw]; simp), List.append_nil, fold_cons, step_done (take_done ⟨h1, h2⟩ hk), fold_nil, ha]
    rfl
  have wait_ : waitB ⟨f, r, o, v, a⟩ = true → 32 ≤ v → v ≠ 127 → (kindF ⟨f, r, o, 0, 0⟩ v = 4 ∨ kindF ⟨f, r, o, 0, 0⟩ v = 7 ∨ kindF ⟨f, r, o, 0, 0⟩ v = 8) → 32 ≤ a → a ≠ 127 → v ≠ 34 → ((v = 105 ∨ v = 97) → objB a = true) → foldA ⟨[], ⟨f, r, o, 0, 0⟩, 0⟩ ([v] ++ argF ⟨f, r, o, v, a⟩) = ⟨[⟨f, r, o, v, a⟩], Pt.zero, 0⟩ := by
    intro hw h1 h2 hk h3 h4 h5 h6
    have ht : takeK ⟨f, r, o, 0, v⟩ a = ⟨Pt.zero, ⟨f, r, o, v, a⟩, 2⟩ := by
      unfold takeK awaitF
      rw [if_neg (by omega), if_pos (by simp only; omega), if_neg (by simpa using h5)]
      unfold cmdF
      rw [tot_one]
      by_cases hi : v = 105 ∨ v = 97
      · rw [if_pos (by simpa using hi), if_pos (h6 hi)]
      · rw [if_neg (by simpa using hi)]
    unfold argF
    rw [if_pos hw]
    show foldA _ [v, a] = _
    rw [fold_cons, step_more (take_wait ⟨h1, h2⟩ hk), fold_cons, step_done (a := ⟨[], ⟨f, r, o, 0, v⟩, 0⟩) ht, fold_nil]
    rfl
  rcases hv with ⟨hop, rfl, rfl⟩ | ⟨hm, rfl, hz⟩ | ⟨rfl, rfl, hp⟩ | ⟨hf, ha, hb⟩ | ⟨rfl, rfl, ha, hb⟩ | ⟨hop, hi, hob, ha, hb⟩
  · -- the operator's key twice
    have hs := opeB_spec (by rcases ho with h | h; exact absurd h hop; exact h)
    have hd : digB ⟨f, r, v, 0, 0⟩ v = false := dig_none (by omega)
    have hk : kindF ⟨f, r, v, 0, 0⟩ v = 3 := by unfold kindF; rw [if_neg (by rw [hd]; simp), if_pos (by rcases ho with h | h; exact absurd h hop; exact h)]
    have hw : waitB ⟨f, r, v, v, 0⟩ = false := by rcases hs with rfl | rfl | rfl <;> rfl
    have ht : takeK ⟨f, r, v, 0, 0⟩ v = ⟨Pt.zero, ⟨f, r, v, v, 0⟩, 2⟩ := by
      unfold takeK
      rw [if_neg (by omega), if_neg (by simp), if_neg (by omega), if_neg (by omega), if_pos hk, if_neg hop, if_neg (by simp)]
      unfold cmdF
      rw [tot_one]
    unfold argF
    rw [if_neg (by rw [hw]; simp), List.append_nil, fold_cons, step_done ht, fold_nil]
    rfl
  · have hs := motB_spec hm
    have hd : digB ⟨f, r, o, 0, 0⟩ v = false := dig_none (by
      by_cases h48 : v = 48
      · exact .inr (.inr ⟨h48, fun h => by have := hz h48 h; omega⟩)
      · omega)
    have hop : opeB v = false := by rcases hs with rfl | rfl | rfl | rfl | rfl | rfl | rfl | rfl | rfl | rfl | rfl | rfl | rfl | rfl | rfl <;> rfl
    have hk : kindF ⟨f, r, o, 0, 0⟩ v = 5 := by
      unfold kindF
      rw [if_neg (by rw [hd]; simp), if_neg (by rw [hop]; simp), if_pos hm]
    exact done_ (by rcases hs with rfl | rfl | rfl | rfl | rfl | rfl | rfl | rfl | rfl | rfl | rfl | rfl | rfl | rfl | rfl <;> rfl) rfl (by omega) (by omega) (.inl hk)
  · rcases hp with hp | hp
    · have hs := plainB_spec hp
      have hd : digB ⟨f, r, 0, 0, 0⟩ v = false := dig_none (by omega)
      have hk : kindF ⟨f, r, 0, 0, 0⟩ v = 6 := by
        unfold kindF
        rw [hd]
        rcases hs with rfl | rfl | rfl | rfl | rfl | rfl | rfl | rfl | rfl | rfl | rfl | rfl | rfl | rfl | rfl | rfl | rfl | rfl | rfl | rfl | rfl | rfl | rfl <;> rfl
      exact done_ (by rcases hs with rfl | rfl | rfl | rfl | rfl | rfl | rfl | rfl | rfl | rfl | rfl | rfl | rfl | rfl | rfl | rfl | rfl | rfl | rfl | rfl | rfl | rfl | rfl <;> rfl) rfl (by omega) (by omega) (.inr hk)
    · have hd : digB ⟨f, r, 0, 0, 0⟩ v = false := dig_none (by omega)
      have hk : kindF ⟨f, r, 0, 0, 0⟩ v = 6 := by
        unfold kindF
        rw [hd]
        rcases hp with rfl | rfl <;> rfl
      exact done_ (by rcases hp with rfl | rfl <;> rfl) rfl (by omega) (by omega) (.inr hk)
  · have hs := findB_spec hf
    have hd : digB ⟨f, r, o, 0, 0⟩ v = false := dig_none (by omega)
    have hk : kindF ⟨f, r, o, 0, 0⟩ v = 4 := by
      unfold kindF
      rw [hd]
      rcases hs with rfl | rfl | rfl | rfl <;> rfl
    exact wait_ (by rcases hs with rfl | rfl | rfl | rfl <;> rfl) (by omega) (by omega) (.inl hk) ha hb (by omega) (by omega)
  · have hd : digB ⟨f, r, 0, 0, 0⟩ 114 = false := dig_none (by omega)
    have hk : kindF ⟨f, r, 0, 0, 0⟩ 114 = 7 := by
      unfold kindF
      rw [hd]
      rfl
    exact wait_ rfl (by omega) (by omega) (.inr (.inl hk)) ha hb (by omega) (by omega)
  · have hd : digB ⟨f, r, o, 0, 0⟩ v = false := dig_none (by omega)
    have hk : kindF ⟨f, r, o, 0, 0⟩ v = 8 := by
      unfold kindF
      rw [hd]
      rcases hi with rfl | rfl
      · simp [opeB, motB, findB, hop]
      · simp [opeB, motB, findB, hop]
    have hw : waitB ⟨f, r, o, v, a⟩ = true := by
      unfold waitB
      rcases hi with rfl | rfl
      · simp [findB, hop]
      · simp [findB, hop]
    exact wait_ hw (by omega) (by omega) (.inr (.inr hk)) ha hb (by omega) (fun _ => hob)

theorem keysF_len (c : Cm) : (keysF c).length ≤ 8 := by
  unfold keysF regF digsF opF argF
  have h1 : (if c.reg = 0 then ([] : List Int) else [34, c.reg]).length ≤ 2 := by split <;> simp
  have h2 : (if 100 ≤ c.count then [48 + c.count / 100 % 10] else ([] : List Int)).length ≤ 1 := by split <;> simp
  have h3 : (if 10 ≤ c.count then [48 + c.count / 10 % 10] else ([] : List Int)).length ≤ 1 := by split <;> simp
  have h4 : (if 1 ≤ c.count then [48 + c.count % 10] else ([] : List Int)).length ≤ 1 := by split <;> simp
  have h5 : (if c.op = 0 then ([] : List Int) else [c.op]).length ≤ 1 := by split <;> simp
  have h6 : (if waitB c = true then [c.arg] else ([] : List Int)).length ≤ 1 := by split <;> simp
  simp only [List.length_append, List.length_singleton]
  omega
/-- All commands that are told can be written. -/
theorem all_told : ∀ (l : List Int) (a : Al), chkB a.p = true → (∀ c ∈ a.out, Told c) → ∀ c ∈ (foldA a l).out, Told c
  | [], a, _, h => h
  | k :: l, a, hp, h => by
    rw [fold_cons]
    refine all_told l (stepA a k) (take_keeps (k := k) hp).1 ?_
    intro c hc
    unfold stepA at hc
    simp only at hc
    split at hc
    · rcases List.mem_append.1 hc with hc | hc
      · exact h c hc
      · rw [List.mem_singleton.1 hc]
        exact told_of hp ‹_›
    · exact h c hc
theorem told_all (l : List Int) : ∀ c ∈ (allA l).out, Told c := all_told l _ zero_ok (by simp)
end Go.Proofs.Ytpgffhmcangllaa
