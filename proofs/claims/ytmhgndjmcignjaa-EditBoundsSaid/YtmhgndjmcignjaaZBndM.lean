/-
  What comes of a command is a line with its place in it, and the Edit makes it: plain law.
-/
import Derived.Test.YtmhgndjmcignjaaZDoX

namespace Go.Proofs.Ytmhgndjmcignjaa
open Go.RowKit
set_option linter.unusedVariables false
set_option linter.unusedSimpArgs false

theorem EdMakes.good {l m : List Int} {e : List Spl} (h : EdMakes l m e) (hl : l.length ≤ 4096) (hm : m.length ≤ 4096) : chkF l.length e = 0 ∧ appF l 0 e = m := by
  obtain ⟨k, j, hb, ⟨h1, h2, rfl⟩ | ⟨h1, rfl⟩⟩ := h
  · refine ⟨chkF_zero.2 ⟨by omega, by omega, trivial, ?_⟩, ?_⟩
    · simp only [fits]; omega
    · rw [btw_whole hb h1 h2]; simp [appF]
  · exact ⟨btw_chk hb hl hm h1, btw_app hb⟩
theorem none_good {l : List Int} (hl : l.length ≤ 4096) : chkF l.length [] = 0 ∧ appF l 0 [] = l :=
  ⟨chkF_zero.2 ⟨by omega, by omega, trivial, by simp only [fits]; omega⟩, by simp [appF]⟩
/-- What is asked of a result. -/
def BndIs (l : List Int) (n : Nat) (m : List Int) (at_ md : Int) (ed : List Spl) : Prop :=
  m.length ≤ 200 ∧ 0 ≤ at_ ∧ (md = 0 → at_ ≤ max 0 ((m.length : Int) - 1)) ∧ (md ≠ 0 → at_ ≤ m.length) ∧ chkF n ed = 0 ∧ appF l 0 ed = m
theorem bnd_op {l : List Int} {n a f t : Nat} {rl rl' : Nat → List Int} {k2 o : Int} {whole : Bool} {m : List Int} {at_ md : Int} {ed : List Spl} (h : OpRel l a rl k2 o f t whole m at_ md rl' ed) (hl : l.length = n) (hn : n ≤ 200) (ha : a ≤ n - 1) (hft : f ≤ t) (htn : t ≤ n) : BndIs l n m at_ md ed := by
  obtain ⟨_, _, ⟨_, rfl, rfl, rfl, hat⟩ | ⟨_, hm, he, hh⟩⟩ := h
  · have hg := none_good (l := m) (by omega)
    rw [hl] at hg
    refine ⟨by omega, ?_, fun _ => ?_, fun h => absurd rfl h, hg.1, hg.2⟩
    · rw [hat]; split <;> omega
    · rw [hat]; split <;> omega
  · have hml : m.length = f + (n - t) := by rw [hm]; simp; omega
    have hg := he.good (by omega) (by omega)
    rw [hl] at hg
    refine ⟨by omega, ?_, fun hd => ?_, fun hd => ?_, hg.1, hg.2⟩
    · rcases hh with ⟨_, h1, _⟩ | ⟨_, _, h1⟩ <;> omega
    · rcases hh with ⟨_, h1, h2⟩ | ⟨_, _, h1⟩ <;> omega
    · rcases hh with ⟨_, h1, h2⟩ | ⟨_, h2, h1⟩ <;> omega
theorem firstF_bd (l : List Int) : firstF l ≤ l.length - 1 := by
  unfold firstF
  split <;> omega
theorem fillL_len {l : List Int} {a k : Nat} {x : Int} (h : a + k ≤ l.length) : (fillL l a k x).length = l.length := by
  unfold fillL; simp; omega
theorem bnd_plain {l : List Int} {n a : Nat} {rl : Nat → List Int} {k1 k2 v k5 : Int} {m : List Int} {at_ md : Int} {ed : List Spl} (h : PlainRel l n a rl k1 k2 v k5 m at_ md ed) (hl : l.length = n) (hn : n ≤ 200) (ha : a ≤ n - 1) : BndIs l n m at_ md ed := by
  have hN : 1 ≤ cntN k1 := by unfold cntN; omega
  have paste : ∀ p, p ≤ n → PasteRel l n p rl k1 k2 m at_ ed → md = 0 → BndIs l n m at_ md ed := by
    rintro p hp ⟨⟨h1, h2⟩, h3, h4, h5⟩ rfl
    have hx := getE_len h1
    have hN1 : 1 ≤ cntN k1 * (getL rl k2).length := Nat.mul_pos hN hx
    have hml : m.length = n + cntN k1 * (getL rl k2).length := by rw [h3]; simp [repL_len]; omega
    have hg := h4.good (by omega) (by omega)
    rw [hl] at hg
    exact ⟨by omega, by omega, fun _ => by omega, fun h => absurd rfl h, hg.1, hg.2⟩
  rcases h with ⟨_, h, h2⟩ | ⟨_, h, h2⟩ | ⟨_, h0, hm, he, hat, hd⟩ | ⟨_, h0, hm, he, hat, hd⟩ | ⟨rfl, rfl, h⟩
  · exact paste _ (by omega) h h2
  · exact paste _ (by omega) h h2
  · have hml : m.length = n := by rw [hm, caseL_len (by omega)]; exact hl
    have hg := he.good (by omega) (by omega)
    rw [hl] at hg
    exact ⟨by omega, by omega, fun _ => by omega, fun h => absurd hd h, hg.1, hg.2⟩
  · have hml : m.length = n := by rw [hm, fillL_len (by omega)]; exact hl
    have hg := he.good (by omega) (by omega)
    rw [hl] at hg
    exact ⟨by omega, by omega, fun _ => by omega, fun h => absurd hd h, hg.1, hg.2⟩
  · have hg := none_good (l := m) (by omega)
    rw [hl] at hg
    have hf := firstF_bd m
    refine ⟨by omega, ?_, fun hd => ?_, fun hd => ?_, hg.1, hg.2⟩
    · rcases h with ⟨_, h1, _⟩ | ⟨_, h1, _⟩ | ⟨_, h1, _⟩ | ⟨_, h1, _⟩ | ⟨_, h1, _⟩ <;> omega
    · rcases h with ⟨_, h1, _⟩ | ⟨_, h1, _⟩ | ⟨_, h1, _⟩ | ⟨_, h1, _⟩ | ⟨_, h1, _⟩ <;> omega
    · rcases h with ⟨_, h1, _⟩ | ⟨_, h1, _⟩ | ⟨_, h1, _⟩ | ⟨_, h1, _⟩ | ⟨_, h1, _⟩ <;> omega
theorem bnd_do {l : List Int} {n a : Nat} {rl rl' : Nat → List Int} {k1 k2 o v k5 fk fa zk za : Int} {m : List Int} {at_ md : Int} {ed : List Spl} (h : DoRelV l n a rl k1 k2 o v k5 fk fa m at_ md zk za rl' ed) (hl : l.length = n) (hn : n ≤ 200) (ha : a ≤ n - 1) : BndIs l n m at_ md ed := by
  rcases h with ⟨_, mk, ma, _, ⟨_, h1, rfl, rfl, _, rfl⟩ | ⟨_, f, t, h1, h2⟩⟩ | ⟨_, _, _, _, _, h⟩ | ⟨_, _, _, _, f, t, whole, h1, h2, _, h3⟩
  · obtain ⟨_, y, i, _, h3, h4⟩ := h1
    have hg := none_good (l := m) (by omega)
    rw [hl] at hg
    exact ⟨by omega, by omega, fun _ => by omega, fun h => absurd rfl h, hg.1, hg.2⟩
  · have hbd := h1.bd ha
    exact bnd_op h2 hl hn ha hbd.2.2.1 hbd.2.2.2
  · exact bnd_plain h hl hn ha
  · exact bnd_op h3 hl hn ha h1 h2
end Go.Proofs.Ytmhgndjmcignjaa
