/-
  The walk of keys.Take.
-/
import Derived.Test.YtpgffhmcangllaaKeyV1
import Derived.Test.YtpgffhmcangllaaKeyV2
import Derived.Test.YtpgffhmcangllaaKeyV3
import Derived.Test.YtpgffhmcangllaaKeyV4
import Derived.Test.YtpgffhmcangllaaKeyV5
import Derived.Test.YtpgffhmcangllaaKeyV6
namespace Go.Proofs.Ytpgffhmcangllaa
open Go.RowKit
set_option linter.unusedVariables false
set_option linter.unusedSimpArgs false

theorem kind_range (p : Pt) (k : Int) : kindF p k = 0 ∨ kindF p k = 1 ∨ kindF p k = 2 ∨ kindF p k = 3 ∨ kindF p k = 4 ∨ kindF p k = 5 ∨ kindF p k = 6 ∨ kindF p k = 7 ∨ kindF p k = 8 := by
  unfold kindF
  (repeat' split) <;> decide
theorem kind_digit {p : Pt} {k : Int} (h : kindF p k = 1) : 0 ≤ k ∧ k ≤ 255 := by
  have hdb : digB p k = true := by
    unfold kindF at h
    split at h
    · assumption
    · exfalso; revert h; (repeat' split) <;> decide
  unfold digB at hdb
  simp at hdb
  omega
/-- Take, of a part that is in bounds. -/
theorem take_ok {p : Pt} {k : Int} (w : World) (h : chkB p = true) : Calls Try.prog 10 #[ptV p, .int .i64 k] w fun e w' => e = .returned (tkV (takeK p k)) ∧ Ext w w' := by
  obtain ⟨f, r, o, s, wt⟩ := p
  by_cases h32 : k < 32
  · have e : takeK ⟨f, r, o, s, wt⟩ k = wrongT := by unfold takeK; rw [if_pos (.inl h32)]
    rw [e]; exact take_low h32 w h
  by_cases h127 : k = 127
  · subst h127
    have e : takeK ⟨f, r, o, s, wt⟩ 127 = wrongT := by unfold takeK; rw [if_pos (.inr rfl)]
    rw [e]; exact take_127 w h
  have hn : ¬ (k < 32 ∨ k = 127) := fun hh => hh.elim h32 h127
  by_cases hw : wt = 0
  rotate_left
  · have e : takeK ⟨f, r, o, s, wt⟩ k = awaitF ⟨f, r, o, s, wt⟩ k := by unfold takeK; rw [if_neg hn]; exact if_pos hw
    rw [e]; exact take_await h32 h127 hw w h
  subst hw
  rcases kind_range ⟨f, r, o, s, 0⟩ k with hz | hz | hz | hz | hz | hz | hz | hz | hz
  · have e : takeK ⟨f, r, o, s, 0⟩ k = wrongT := by unfold takeK; rw [if_neg hn, if_neg (by simp)]; simp [hz]
    rw [e]; exact take_none h32 h127 hz w h
  · have hk := kind_digit hz
    by_cases ho : o = 0
    · subst ho
      have e : takeK ⟨f, r, 0, s, 0⟩ k = ⟨⟨countF f k, r, 0, s, 0⟩, Cm.zero, 1⟩ := by unfold takeK; rw [if_neg hn, if_neg (by simp)]; simp [hz]
      rw [e]; exact take_first h32 h127 hk hz w h
    · have e : takeK ⟨f, r, o, s, 0⟩ k = ⟨⟨f, r, o, countF s k, 0⟩, Cm.zero, 1⟩ := by unfold takeK; rw [if_neg hn, if_neg (by simp)]; simp [hz, ho]
      rw [e]; exact take_second h32 h127 hk ho hz w h
  · have e : takeK ⟨f, r, o, s, 0⟩ k = ⟨⟨f, r, o, s, k⟩, Cm.zero, 1⟩ := by unfold takeK; rw [if_neg hn, if_neg (by simp)]; simp [hz]
    rw [e]; exact take_wait2 h32 h127 hz w h
  · by_cases ho : o = 0
    · subst ho
      have e : takeK ⟨f, r, 0, s, 0⟩ k = ⟨⟨f, r, k, s, 0⟩, Cm.zero, 1⟩ := by unfold takeK; rw [if_neg hn, if_neg (by simp)]; simp [hz]
      rw [e]; exact take_oper h32 h127 hz w h
    · by_cases hok : o = k
      · have e : takeK ⟨f, r, o, s, 0⟩ k = ⟨Pt.zero, cmdF ⟨f, r, o, s, 0⟩ k 0, 2⟩ := by unfold takeK; rw [if_neg hn, if_neg (by simp)]; rw [if_neg (by rw [hz]; decide), if_neg (by rw [hz]; decide), if_pos hz, if_neg ho, if_neg (fun hh => hh hok)]
        rw [e]; exact take_twice h32 h127 ho hok hz w h
      · have e : takeK ⟨f, r, o, s, 0⟩ k = wrongT := by unfold takeK; rw [if_neg hn, if_neg (by simp)]; rw [if_neg (by rw [hz]; decide), if_neg (by rw [hz]; decide), if_pos hz, if_neg ho, if_pos hok]
        rw [e]; exact take_other h32 h127 ho hok hz w h
  · have e : takeK ⟨f, r, o, s, 0⟩ k = ⟨⟨f, r, o, s, k⟩, Cm.zero, 1⟩ := by unfold takeK; rw [if_neg hn, if_neg (by simp)]; simp [hz]
    rw [e]; exact take_wait4 h32 h127 hz w h
  · have e : takeK ⟨f, r, o, s, 0⟩ k = ⟨Pt.zero, cmdF ⟨f, r, o, s, 0⟩ k 0, 2⟩ := by unfold takeK; rw [if_neg hn, if_neg (by simp)]; simp [hz]
    rw [e]; exact take_cmd5 h32 h127 hz w h
  · have e : takeK ⟨f, r, o, s, 0⟩ k = ⟨Pt.zero, cmdF ⟨f, r, o, s, 0⟩ k 0, 2⟩ := by unfold takeK; rw [if_neg hn, if_neg (by simp)]; simp [hz]
    rw [e]; exact take_cmd6 h32 h127 hz w h
  · have e : takeK ⟨f, r, o, s, 0⟩ k = ⟨⟨f, r, o, s, k⟩, Cm.zero, 1⟩ := by unfold takeK; rw [if_neg hn, if_neg (by simp)]; simp [hz]
    rw [e]; exact take_wait7 h32 h127 hz w h
  · have e : takeK ⟨f, r, o, s, 0⟩ k = ⟨⟨f, r, o, s, k⟩, Cm.zero, 1⟩ := by unfold takeK; rw [if_neg hn, if_neg (by simp)]; simp [hz]
    rw [e]; exact take_wait8 h32 h127 hz w h
end Go.Proofs.Ytpgffhmcangllaa
