/-
  The walks of reg.Get and fairref.SameRegs.
-/
import Derived.Test.YtmhgndjmcignjaaZJ2
import Derived.Test.YtmhgndjmcignjaaZJ1

namespace Go.Proofs.Ytmhgndjmcignjaa
open Go.RowKit
set_option linter.unusedVariables false
set_option linter.unusedSimpArgs false

/-- What Get answers. -/
def getL (rs : Nat → List Int) (k : Int) : List Int := match regNo k with | none => [] | some (i, _) => rs i
def getE' (rs : Nat → List Int) (k : Int) : Int := match regNo k with | none => 9 | some (i, _) => if (rs i).length = 0 then 6 else 0
theorem getE_bd (rs : Nat → List Int) (k : Int) : getE' rs k = 0 ∨ getE' rs k = 6 ∨ getE' rs k = 9 := by
  unfold getE'
  split
  · exact .inr (.inr rfl)
  · split
    · exact .inr (.inl rfl)
    · exact .inl rfl

set_option maxRecDepth 20000 in
set_option maxHeartbeats 4000000 in
theorem get_ok {w : World} {cs : Array Value} {rs : Nat → List Int} {k : Int} (hr : Regs w cs rs) :
    Calls Try.prog 54 #[.agg cs, .int .i64 k] w fun e w' => ∃ B n d, e = .returned (.tuple #[.slice B n d, .int .i64 (getE' rs k)]) ∧ OwnI w' w.heap.size B n d (getL rs k) ∧ (B = none → d = 0) ∧ Ext w w' := by
  cases h : regNo k with
  | none =>
    have e1 : getE' rs k = 9 := by unfold getE'; rw [h]
    have e2 : getL rs k = [] := by unfold getL; rw [h]
    rw [e1, e2]
    have HN := fun w => Lib.hid (number_no w h)
    clear h e1 e2 hr
    go_enter Try.func54, Try.ntmps54
    go_wp2_with fail
    refine ((HN _).out).mono ?_
    rintro e w1 ⟨rfl, rfl⟩
    clear HN
    go_wp2_with fail
    go_ret2
    exact ⟨none, 0, 0, rfl, OwnI.nil _ _, fun _ => rfl, Ext.alloc _ _⟩
  | some p =>
    obtain ⟨i, m⟩ := p
    have e1 : getE' rs k = if (rs i).length = 0 then 6 else 0 := by unfold getE'; rw [h]
    have e2 : getL rs k = rs i := by unfold getL; rw [h]
    rw [e1, e2]
    have HN := fun w => Lib.hid (number_ok w h)
    have hi := regNo_lt h
    obtain ⟨v, hv, B, q, d, rfl, hI, hB, hq⟩ := hr.2 i hi
    have hql := hI.len
    have HC := Lib.hid (clone_ok (hI.ext (Ext.alloc w (.cells cs 30))) hB hq)
    have hqm : q ≤ 9223372036854775807 := by omega
    rw [hql]
    have HL := Lib.hid hql
    clear h e1 e2 hr hI hB hql
    by_cases h0 : q = 0
    · subst h0
      go_enter Try.func54, Try.ntmps54
      go_wp2_with fail
      refine ((HN _).out).mono ?_
      rintro e w1 ⟨rfl, rfl⟩
      clear HN
      go_wp2_with fail
      go_ret2
      exact ⟨none, 0, 0, rfl, by rw [List.eq_nil_of_length_eq_zero HL.out]; exact OwnI.nil _ _, fun _ => rfl, Ext.alloc _ _⟩
    · have hqp : 0 < q := by omega
      rw [if_neg h0]
      clear h0
      go_enter Try.func54, Try.ntmps54
      go_wp2_with fail
      refine ((HN _).out).mono ?_
      rintro e w1 ⟨rfl, rfl⟩
      clear HN
      go_wp2_with fail
      refine HC.out.mono ?_
      rintro e w2 ⟨B2, d2, rfl, hO, hB2, he⟩
      clear HC
      go_wp2_with fail
      go_ret2
      exact ⟨B2, q, d2, rfl, Own.lower hO (by simp), hB2, (Ext.alloc _ _).trans he⟩

set_option maxRecDepth 20000 in
set_option maxHeartbeats 4000000 in
/-- Registers that hold the same are told to be the same. -/
theorem sameRegs_ok {w : World} {cs ds : Array Value} {rs : Nat → List Int} (hc : Regs w cs rs) (hd : Regs w ds rs) :
    Calls Try.prog 18 #[.agg cs, .agg ds] w fun e w' => e = .returned (.bool true) ∧ Ext w w' := by
  have HC := Lib.hid hc
  have HD := Lib.hid hd
  clear hc hd
  have hb1 : Hid (Blk ((w.alloc (.cells cs 30)).alloc (.cells ds 30)) w.heap.size 30 cs) := Lib.hid ((Blk.new w _ cs).ext (Ext.alloc _ _))
  have hb2 : Hid (Blk ((w.alloc (.cells cs 30)).alloc (.cells ds 30)) (w.heap.size + 1) 30 ds) := Lib.hid (by
    have := Blk.new (w.alloc (.cells cs 30)) 30 ds
    rwa [World.size_alloc] at this)
  have hE : Hid (Ext w ((w.alloc (.cells cs 30)).alloc (.cells ds 30))) := Lib.hid ((Ext.alloc _ _).to_alloc _)
  go_enter Try.func18, Try.ntmps18
  go_wp2_with fail
  go_loopw [6] (fun s6 wx => ∃ i : Nat, i ≤ 27 ∧ s6 = .int .i64 i ∧ Hid (Blk wx w.heap.size 30 cs) ∧ Hid (Blk wx (w.heap.size + 1) 30 ds) ∧ Hid (Ext w wx)) (fun s6 _ => 27 - (intOf s6).toNat)
  case atStart => exact ⟨0, by omega, rfl, hb1, hb2, hE⟩
  case round =>
    clear hb1 hb2 hE
    obtain ⟨i, hi, rfl, Hb1, Hb2, He⟩ := hrel
    by_cases hlt : i < 27
    · obtain ⟨v1, hv1, A1, n1, c1, rfl, hI1, _, _⟩ := HC.out.2 i hlt
      obtain ⟨v2, hv2, A2, n2, c2, rfl, hI2, _, _⟩ := HD.out.2 i hlt
      have k1 : wr.cell? ⟨w.heap.size, i, none⟩ = some (.slice A1 n1 c1) := by rw [Hb1.out.cell i, hv1]
      have k2 : wr.cell? ⟨w.heap.size + 1, i, none⟩ = some (.slice A2 n2 c2) := by rw [Hb2.out.cell i, hv2]
      have HQ : Hid (∀ q, Calls Try.prog 10 #[.slice A1 n1 c1, .slice A2 n2 c2] (wr.drewN q) fun e w' => e = .returned (.bool true) ∧ ∃ k, w' = (wr.drewN q).drewN k) := Lib.hid fun q => by
        have h := equal_ok ((hI1.ext He.out).ext (Ext.drewN wr q)) ((hI2.ext He.out).ext (Ext.drewN wr q))
        rwa [eqB_true.2 rfl] at h
      clear hv1 hv2 hI1 hI2
      go_wp2_with fail
      go_quiet ((go_at_call 10; exact quiet_drew (HQ.out _)))
      go_wp2_with fail
      go_roundw
      case rel => exact ⟨i + 1, by omega, by go_num, Lib.hid (Hb1.out.drewN _), Lib.hid (Hb2.out.drewN _), Lib.hid (He.out.to_drewN _)⟩
      case measure => simp [intOf]; omega
    · obtain rfl : i = 27 := by omega
      have HX := He.out
      clear Hb1 Hb2 He
      go_wp2_with fail
      go_ret
      exact ⟨rfl, HX⟩
end Go.Proofs.Ytmhgndjmcignjaa
