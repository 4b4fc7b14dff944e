/-
  Commands out of keys, in plain Lean.
-/
import Derived.Test.YtpgffhmcangllaaBase
namespace Go.Proofs.Ytpgffhmcangllaa
set_option linter.unusedVariables false
set_option linter.unusedSimpArgs false

structure Pt where
  first : Int
  reg : Int
  op : Int
  second : Int
  wait : Int
structure Cm where
  count : Int
  reg : Int
  op : Int
  verb : Int
  arg : Int
def Pt.zero : Pt := ⟨0, 0, 0, 0, 0⟩
def Cm.zero : Cm := ⟨0, 0, 0, 0, 0⟩

def letB (c : Int) : Bool := if 97 ≤ c ∧ c ≤ 122 then true else decide (65 ≤ c ∧ c ≤ 90)
def opeB (c : Int) : Bool := c == 100 || c == 99 || c == 121
def boundsB (p : Pt) : Bool := decide (p.first < 0) || decide (999 < p.first) || decide (p.second < 0) || decide (999 < p.second) || (decide (0 < p.second) && p.op == 0)
def namesB (p : Pt) : Bool := (p.reg != 0 && !letB p.reg) || (p.op != 0 && !opeB p.op)
def waitsB (p : Pt) : Bool :=
  if p.wait == 0 || p.wait == 102 || p.wait == 70 || p.wait == 116 || p.wait == 84 then true
  else if p.wait == 114 || p.wait == 34 then p.op == 0 && (p.wait == 114 || p.reg == 0)
  else if p.wait == 105 || p.wait == 97 then p.op != 0
  else false
def chkB (p : Pt) : Bool := !boundsB p && !namesB p && waitsB p
def motB (k : Int) : Bool := k == 104 || k == 108 || k == 48 || k == 94 || k == 36 || k == 124 || k == 119 || k == 87 || k == 98 || k == 66 || k == 101 || k == 69 || k == 37 || k == 59 || k == 44
def findB (k : Int) : Bool := k == 102 || k == 70 || k == 116 || k == 84
def plainB (k : Int) : Bool := k == 73 || k == 65 || k == 115 || k == 83 || k == 67 || k == 68 || k == 120 || k == 88 || k == 112 || k == 80 || k == 89 || k == 126 || k == 117 || k == 85 || k == 46 || k == 106 || k == 107 || k == 71 || k == 47 || k == 63 || k == 110 || k == 78 || k == 82
def cntF (p : Pt) : Int := if p.op == 0 then p.first else p.second
def digB (p : Pt) (k : Int) : Bool := (decide (49 ≤ k) && decide (k ≤ 57)) || (k == 48 && decide (0 < cntF p))
/-- The kind of a key: 0 none, 1 digit, 2 quote, 3 oper, 4 find, 5 motion, 6 plain, 7 char, 8 inner. -/
def kindF (p : Pt) (k : Int) : Int :=
  if digB p k then 1 else if opeB k then 3 else if motB k then 5 else if findB k then 4
  else if k == 105 || k == 97 then (if p.op != 0 then 8 else 6)
  else if p.op != 0 then 0
  else if k == 34 then (if p.reg != 0 then 0 else 2)
  else if k == 114 then 7
  else if plainB k then 6 else 0
def countF (n k : Int) : Int := min 999 (10 * n + k - 48)
def totF (p : Pt) : Int := if p.first == 0 then p.second else if p.second == 0 then p.first else min 999 (p.first * p.second)
def cmdF (p : Pt) (v a : Int) : Cm := ⟨totF p, p.reg, p.op, v, a⟩
def objB (k : Int) : Bool := k == 119 || k == 87 || k == 40 || k == 41 || k == 91 || k == 93 || k == 123 || k == 125 || k == 34 || k == 39 || k == 96
/-- What comes of a key: the part, the command, how (1 more, 2 done, 3 wrong). -/
structure Tk where
  p : Pt
  c : Cm
  how : Int
def wrongT : Tk := ⟨Pt.zero, Cm.zero, 3⟩
def awaitF (p : Pt) (k : Int) : Tk :=
  if p.wait == 34 then (if letB k then ⟨{ p with reg := k, wait := 0 }, Cm.zero, 1⟩ else wrongT)
  else if p.wait == 105 || p.wait == 97 then (if objB k then ⟨Pt.zero, cmdF p p.wait k, 2⟩ else wrongT)
  else ⟨Pt.zero, cmdF p p.wait k, 2⟩
def takeK (p : Pt) (k : Int) : Tk :=
  if k < 32 ∨ k = 127 then wrongT
  else if p.wait ≠ 0 then awaitF p k
  else if kindF p k = 1 then (if p.op ≠ 0 then ⟨{ p with second := countF p.second k }, Cm.zero, 1⟩ else ⟨{ p with first := countF p.first k }, Cm.zero, 1⟩)
  else if kindF p k = 2 ∨ kindF p k = 4 ∨ kindF p k = 7 ∨ kindF p k = 8 then ⟨{ p with wait := k }, Cm.zero, 1⟩
  else if kindF p k = 3 then (if p.op = 0 then ⟨{ p with op := k }, Cm.zero, 1⟩ else if p.op ≠ k then wrongT else ⟨Pt.zero, cmdF p k 0, 2⟩)
  else if kindF p k = 5 ∨ kindF p k = 6 then ⟨Pt.zero, cmdF p k 0, 2⟩
  else wrongT

theorem kind_waits {f r o s k : Int} (h : kindF ⟨f, r, o, s, 0⟩ k = 2 ∨ kindF ⟨f, r, o, s, 0⟩ k = 4 ∨ kindF ⟨f, r, o, s, 0⟩ k = 7 ∨ kindF ⟨f, r, o, s, 0⟩ k = 8) : waitsB ⟨f, r, o, s, k⟩ = true := by
  unfold kindF at h
  by_cases a1 : digB ⟨f, r, o, s, 0⟩ k = true
  · simp [a1] at h
  by_cases a2 : opeB k = true
  · simp [a1, a2] at h
  by_cases a3 : motB k = true
  · simp [a1, a2, a3] at h
  by_cases a4 : findB k = true
  · unfold waitsB
    simp [findB] at a4
    rw [if_pos (by simp; omega)]
  by_cases a5 : k = 105 ∨ k = 97
  · have a5' : (k == 105 || k == 97) = true := by simpa using a5
    by_cases ho : o = 0
    · subst ho; simp [a1, a2, a3, a4, a5'] at h
    · unfold waitsB
      rw [if_neg (by simp; omega), if_neg (by simp; omega), if_pos (by simpa using a5)]
      simpa using ho
  · have a5' : (k == 105 || k == 97) = false := by simpa using a5
    by_cases ho : o = 0
    · subst ho
      by_cases a6 : k = 34
      · subst a6
        by_cases hr : r = 0
        · subst hr; rfl
        · simp [a1, a2, a3, a4, hr] at h
      · by_cases a7 : k = 114
        · subst a7; rfl
        · have a6' : (k == 34) = false := by simpa using a6
          have a7' : (k == 114) = false := by simpa using a7
          simp only [a1, a2, a3, a4, a5', a6', a7', if_false, Bool.false_eq_true] at h
          exfalso
          revert h
          by_cases a8 : plainB k = true <;> simp [a8]
    · simp [a1, a2, a3, a4, a5', ho] at h
theorem zero_ok : chkB Pt.zero = true := by decide
/-- What is in bounds stays so; what goes on turns the part, but where a count is as great as it may be. -/
theorem take_keeps {p : Pt} {k : Int} (h : chkB p = true) : chkB (takeK p k).p = true ∧ ((takeK p k).how = 1 ∨ (takeK p k).how = 2 ∨ (takeK p k).how = 3) ∧ ((takeK p k).how ≠ 1 → (takeK p k).p = Pt.zero) ∧
    ((takeK p k).how = 1 → (takeK p k).p = p → p.first = 999 ∨ p.second = 999) := by
  obtain ⟨f, r, o, s, wt⟩ := p
  unfold takeK
  split
  · exact ⟨zero_ok, by simp [wrongT], fun _ => rfl, by simp [wrongT]⟩
  rename_i hk
  split
  · rename_i hw
    unfold awaitF
    split
    · rename_i h34
      split
      · rename_i hl
        simp only at h34 hl hw
        have h34' : wt = 34 := by simpa using h34
        subst h34'
        refine ⟨?_, by simp, by simp, ?_⟩
        · simp only [chkB, boundsB, namesB, waitsB] at h ⊢
          simp at h ⊢
          obtain ⟨⟨h1, h2, h3⟩, h4⟩ := h
          exact ⟨h1, .inr hl, h3⟩
        · intro _ e
          injection e with _ _ _ _ e
          omega
      · exact ⟨zero_ok, by simp [wrongT], fun _ => rfl, by simp [wrongT]⟩
    · split
      · split
        · exact ⟨zero_ok, by simp, fun _ => rfl, by simp⟩
        · exact ⟨zero_ok, by simp [wrongT], fun _ => rfl, by simp [wrongT]⟩
      · exact ⟨zero_ok, by simp, fun _ => rfl, by simp⟩
  rename_i hw
  simp only [ne_eq, Decidable.not_not] at hw
  subst hw
  split
  · rename_i hd
    have hdb : digB ⟨f, r, o, s, 0⟩ k = true := by
      unfold kindF at hd
      split at hd
      · assumption
      · exfalso; revert hd; (repeat' split) <;> decide
    have hb : 0 ≤ f ∧ f ≤ 999 ∧ 0 ≤ s ∧ s ≤ 999 := by
      simp [chkB, boundsB] at h
      omega
    split
    · rename_i ho
      simp only [ne_eq] at ho
      have hcs : cntF ⟨f, r, o, s, 0⟩ = s := by unfold cntF; simp [ho]
      simp [digB, hcs] at hdb
      have hc : 0 ≤ countF s k ∧ countF s k ≤ 999 ∧ (countF s k = s → s = 999) := by unfold countF; omega
      refine ⟨?_, by simp, by simp, ?_⟩
      · simp [chkB, boundsB, namesB, waitsB] at h ⊢
        simp [ho] at h ⊢
        refine ⟨?_, h.2⟩
        omega
      · intro _ e
        injection e with _ _ _ e _
        exact .inr (hc.2.2 e)
    · rename_i ho
      simp only [ne_eq, Decidable.not_not] at ho
      subst ho
      have hcs : cntF ⟨f, r, 0, s, 0⟩ = f := by unfold cntF; simp
      simp [digB, hcs] at hdb
      have hc : 0 ≤ countF f k ∧ countF f k ≤ 999 ∧ (countF f k = f → f = 999) := by unfold countF; omega
      refine ⟨?_, by simp, by simp, ?_⟩
      · simp [chkB, boundsB, namesB, waitsB] at h ⊢
        refine ⟨?_, h.2⟩
        omega
      · intro _ e
        injection e with e _ _ _ _
        exact .inl (hc.2.2 e)
  rename_i hd
  split
  · rename_i hq
    have hk0 : k ≠ 0 := by omega
    have hwk := kind_waits (f := f) (s := s) hq
    refine ⟨?_, by simp, by simp, ?_⟩
    · simp only [chkB, boundsB, namesB] at h ⊢
      rw [hwk]
      simp at h ⊢
      exact h.1
    · intro _ e
      injection e with _ _ _ _ e
      exact absurd e hk0
  rename_i hq
  split
  · rename_i ho3
    have hob : opeB k = true := by
      unfold kindF at ho3
      split at ho3
      · exact absurd ho3 (by decide)
      · split at ho3
        · assumption
        · exfalso; revert ho3; (repeat' split) <;> decide
    split
    · rename_i ho
      simp only at ho
      subst ho
      have hk0 : k ≠ 0 := by omega
      refine ⟨?_, by simp, by simp, ?_⟩
      · simp [chkB, boundsB, namesB, waitsB] at h ⊢
        simp [hob, hk0]
        exact ⟨h.1.1, h.2⟩
      · intro _ e
        injection e with _ _ e _ _
        exact absurd e hk0
    · split
      · exact ⟨zero_ok, by simp [wrongT], fun _ => rfl, by simp [wrongT]⟩
      · exact ⟨zero_ok, by simp, fun _ => rfl, by simp⟩
  split
  · exact ⟨zero_ok, by simp, fun _ => rfl, by simp⟩
  · exact ⟨zero_ok, by simp [wrongT], fun _ => rfl, by simp [wrongT]⟩
end Go.Proofs.Ytpgffhmcangllaa
