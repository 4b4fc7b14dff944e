/-
  The doer's paste: what a register holds is put in, so many times.
-/
import Derived.Test.YtmhgndjmcignjaaZDoO
import Derived.Test.YtmhgndjmcignjaaZRegG
import Derived.Test.YtmhgndjmcignjaaZRepl

namespace Go.Proofs.Ytmhgndjmcignjaa
open Go.RowKit
set_option linter.unusedVariables false
set_option linter.unusedSimpArgs false

/-- How often. -/
def cntN (k1 : Int) : Nat := (max 1 k1).toNat
/-- What is in the register fits so many times. -/
def PasteOk (n : Nat) (rl : Nat → List Int) (k1 k2 : Int) : Prop := getE' rl k2 = 0 ∧ cntN k1 * (getL rl k2).length + n ≤ 200
def PasteRel (l : List Int) (n p : Nat) (rl : Nat → List Int) (k1 k2 : Int) (m : List Int) (at_ : Int) (e : List Spl) : Prop :=
  PasteOk n rl k1 k2 ∧ m = l.take p ++ repL (cntN k1) (getL rl k2) ++ l.drop p ∧ EdMakes l m e ∧ at_ = (p : Int) + (cntN k1 * (getL rl k2).length : Nat) - 1
def PastePost (g : Nat) (l : List Int) (n p : Nat) (rl : Nat → List Int) (k1 k2 fk fa : Int) (w : World) (cs : Array Value) : Prop :=
  ∃ m at_ e, OutIs w (g + 1) cs m at_ 0 fk fa rl e ∧ PasteRel l n p rl k1 k2 m at_ e
theorem getE_len {rl : Nat → List Int} {k : Int} (h : getE' rl k = 0) : 1 ≤ (getL rl k).length := by
  unfold getE' at h
  unfold getL
  split at h
  · cases h
  · split at h
    · cases h
    · try dsimp only
      omega

set_option maxRecDepth 20000 in
set_option maxHeartbeats 8000000 in
theorem paste_ok {v0 w : World} {g n c p a : Nat} {cs rs : Array Value} {A : Option Addr} {l : List Int} {rl : Nat → List Int} {k1 k2 k3 k4 k5 fk fa : Int} (h : CmdIn v0 w g cs A n c a rs rl k1 k2 k3 k4 k5 fk fa l) (hp : p ≤ n) :
    Calls Try.prog 39 #[.pointer (some ⟨g, 0, none⟩), .int .i64 (p : Int)] w (DoneIs g w (PasteOk n rl k1 k2) (PastePost g l n p rl k1 k2 fk fa)) := by
  obtain ⟨h0, h1, hrs, h29, h30, h31, h32, h33⟩ := h.cells
  have HPt : Hid (∀ wx csx m at_ md rlx e T q d y, MidIs w g cs wx csx m at_ md fk fa rlx e → Ints wx T q d y → (T = none → d = 0) → q ≤ 3000 → Calls Try.prog 45 #[.pointer (some ⟨g, 0, none⟩), .int .i64 (p : Int), .int .i64 (p : Int), .slice T q d] wx fun en w' => (∃ u, en = .returned u) ∧ ∃ cs' e', MidIs w g cs w' cs' (l.take p ++ y ++ l.drop p) at_ md fk fa rlx e' ∧ EdMakes l (l.take p ++ y ++ l.drop p) e') := Lib.hid (by
    intro wx csx m at_ md rlx e T q d y hm hy hT hq
    exact put_mid hm h0 (h.line.ext (h.ext.turned hm.grown h.base)) hy hT (Nat.le_refl _) hp h.len hq)
  have HG := Lib.hid (fun wx (he : Ext w wx) => get_ok (k := k2) (h.regs.ext (h.ext.trans he)))
  have HM := Lib.hid h.mid
  have HB := Lib.hid h.blk
  have HRs := Lib.hid h.regs.1
  have HRv : Hid (∀ j v, rs[j]? = some v → cs[2 + j]? = some v) := Lib.hid (fun j v hj => by
    have hlt := (Array.getElem?_eq_some_iff.1 hj).1
    rw [h.regs.1] at hlt
    rw [hrs j hlt]; exact hj)
  have HC : Hid (cs[0]? = some (.slice A n c) ∧ cs[29]? = some (.int .i64 k1)) := Lib.hid ⟨h0, h29⟩
  have hn2 := h.len
  have hk := h.cnt.1
  have hk9 := h.cnt.2
  have x30 : w.cell? ⟨g, 30, none⟩ = some (.int .i64 k2) := (h.blk.cell 30).trans h30
  obtain ⟨er, her⟩ : ∃ er, getE' rl k2 = er := ⟨_, rfl⟩
  obtain ⟨x, hx⟩ : ∃ x, getL rl k2 = x := ⟨_, rfl⟩
  have herd := getE_bd rl k2
  have hlen := getE_len (rl := rl) (k := k2)
  rw [her] at HG herd hlen
  rw [hx] at HG hlen
  have HE := Lib.hid her
  have HX := Lib.hid hx
  have HLe := Lib.hid hlen
  clear h h0 h1 hrs h29 h30 h31 h32 h33 her hx hlen
  go_enter Try.func39, Try.ntmps39
  go_upto_region 1 with fail
  refine wp_region_held_drew (S := fun w' => w'.cell? ⟨g, 30, none⟩ = some (.int .i64 k2) ∧ Blk w' g 57 cs) (by kernel_rfl) ⟨x30, HB.out⟩ (fun hHeld => ?_)
  refine wpAnyH_take (i := 0) (v := (.pointer (some ⟨g, 0, none⟩))) rfl (by kernel_rfl) (by kernel_rfl) (by kernel_rfl) (fun _ _ _ h => h) (Or.inl ⟨by rfl, by (intro w hSw; obtain ⟨s0, s1⟩ := hSw; go_simp)⟩) hHeld ?_
  try simp only [List.getElem_toArray, List.getElem_cons_zero, List.getElem_cons_succ, Act.put, List.setIfInBounds_toArray, List.set_cons_zero, List.set_cons_succ]
  refine wpAnyH_take (i := 1) (v := (.pointer (some ⟨g, 0, none⟩))) rfl (by kernel_rfl) (by kernel_rfl) (by kernel_rfl) (fun _ _ _ h => h) (Or.inl ⟨by rfl, by (intro w hSw; obtain ⟨s0, s1⟩ := hSw; go_simp)⟩) hHeld ?_
  try simp only [List.getElem_toArray, List.getElem_cons_zero, List.getElem_cons_succ, Act.put, List.setIfInBounds_toArray, List.set_cons_zero, List.set_cons_succ]
  refine wpAnyH_take (i := 2) (v := (.pointer (some ⟨g, 2, none⟩))) rfl (by kernel_rfl) (by kernel_rfl) (by kernel_rfl) (fun _ _ _ h => h) (Or.inl ⟨by rfl, by (intro w hSw; obtain ⟨s0, s1⟩ := hSw; go_simp)⟩) hHeld ?_
  try simp only [List.getElem_toArray, List.getElem_cons_zero, List.getElem_cons_succ, Act.put, List.setIfInBounds_toArray, List.set_cons_zero, List.set_cons_succ]
  refine wpAnyH_take (i := 3) (v := (.agg rs)) rfl (by kernel_rfl) (by kernel_rfl) (by kernel_rfl) (fun _ _ _ h => h) (Or.inl ⟨by rfl, by (intro w hSw; obtain ⟨s0, s1⟩ := hSw; exact run_load_at rfl 30 (.tmp 11) rfl g 2 rfl 57 cs rs (0, 0) _ s1 HRv.out Try.underlying30 rfl (regs_size HRs.out))⟩) hHeld ?_
  try simp only [List.getElem_toArray, List.getElem_cons_zero, List.getElem_cons_succ, Act.put, List.setIfInBounds_toArray, List.set_cons_zero, List.set_cons_succ]
  refine wpAnyH_take (i := 4) (v := (.pointer (some ⟨g, 0, none⟩))) rfl (by kernel_rfl) (by kernel_rfl) (by kernel_rfl) (fun _ _ _ h => h) (Or.inl ⟨by rfl, by (intro w hSw; obtain ⟨s0, s1⟩ := hSw; go_simp)⟩) hHeld ?_
  try simp only [List.getElem_toArray, List.getElem_cons_zero, List.getElem_cons_succ, Act.put, List.setIfInBounds_toArray, List.set_cons_zero, List.set_cons_succ]
  refine wpAnyH_take (i := 5) (v := (.pointer (some ⟨g, 0, none⟩))) rfl (by kernel_rfl) (by kernel_rfl) (by kernel_rfl) (fun _ _ _ h => h) (Or.inl ⟨by rfl, by (intro w hSw; obtain ⟨s0, s1⟩ := hSw; go_simp)⟩) hHeld ?_
  try simp only [List.getElem_toArray, List.getElem_cons_zero, List.getElem_cons_succ, Act.put, List.setIfInBounds_toArray, List.set_cons_zero, List.set_cons_succ]
  refine wpAnyH_take (i := 6) (v := (.pointer (some ⟨g, 29, none⟩))) rfl (by kernel_rfl) (by kernel_rfl) (by kernel_rfl) (fun _ _ _ h => h) (Or.inl ⟨by rfl, by (intro w hSw; obtain ⟨s0, s1⟩ := hSw; go_simp)⟩) hHeld ?_
  try simp only [List.getElem_toArray, List.getElem_cons_zero, List.getElem_cons_succ, Act.put, List.setIfInBounds_toArray, List.set_cons_zero, List.set_cons_succ]
  refine wpAnyH_take (i := 7) (v := (.pointer (some ⟨g, 30, none⟩))) rfl (by kernel_rfl) (by kernel_rfl) (by kernel_rfl) (fun _ _ _ h => h) (Or.inl ⟨by rfl, by (intro w hSw; obtain ⟨s0, s1⟩ := hSw; go_simp)⟩) hHeld ?_
  try simp only [List.getElem_toArray, List.getElem_cons_zero, List.getElem_cons_succ, Act.put, List.setIfInBounds_toArray, List.set_cons_zero, List.set_cons_succ]
  refine wpAnyH_take (i := 8) (v := (.int .i64 k2)) rfl (by kernel_rfl) (by kernel_rfl) (by kernel_rfl) (fun _ _ _ h => h) (Or.inl ⟨by rfl, by (intro w hSw; obtain ⟨s0, s1⟩ := hSw; go_simp)⟩) hHeld ?_
  try simp only [List.getElem_toArray, List.getElem_cons_zero, List.getElem_cons_succ, Act.put, List.setIfInBounds_toArray, List.set_cons_zero, List.set_cons_succ]
  refine wpAnyH_ready (rs := [9]) (by kernel_rfl) (by simp) ?_
  refine AllReadyH.cons rfl (fun K hK => ?_) AllReadyH.nil
  refine step_callf rfl 54 #[.agg rs, .int .i64 k2] rfl (by kernel_rfl) (fun v w' => ∃ B q d, v = .tuple #[.slice B q d, .int .i64 er] ∧ Ints w' B q d x ∧ (B = none → d = 0) ∧ Ext w.drew w') ((HG.out _ (Ext.drew w)).mono fun e w' ⟨B, q, d, h1, h2, h3, h4⟩ => ⟨_, h1, B, q, d, rfl, h2.ints, h3, h4⟩) ?_
  rintro v w3 ⟨B, q, d, rfl, hI3, hB3, hx3⟩
  refine hK.out _ _ ⟨hx3.cell x30, HB.out.ext ((Ext.drew w).trans hx3)⟩ (fun hHeld2 => ?_)
  clear hK K hHeld
  try simp only [List.getElem_toArray, List.getElem_cons_zero, List.getElem_cons_succ, Act.put, List.setIfInBounds_toArray, List.set_cons_zero, List.set_cons_succ]
  refine wpAnyH_take (i := 10) (v := (.tuple #[.slice B q d, .int .i64 er])) rfl (by kernel_rfl) (by kernel_rfl) (by kernel_rfl) (fun _ _ _ h => h) (Or.inl ⟨by rfl, by (intro w hSw; obtain ⟨s0, s1⟩ := hSw; go_simp)⟩) hHeld2 ?_
  try simp only [List.getElem_toArray, List.getElem_cons_zero, List.getElem_cons_succ, Act.put, List.setIfInBounds_toArray, List.set_cons_zero, List.set_cons_succ]
  refine wpAnyH_take (i := 11) (v := (.slice B q d)) rfl (by kernel_rfl) (by kernel_rfl) (by kernel_rfl) (fun _ _ _ h => h) (Or.inl ⟨by rfl, by (intro w hSw; obtain ⟨s0, s1⟩ := hSw; go_simp)⟩) hHeld2 ?_
  try simp only [List.getElem_toArray, List.getElem_cons_zero, List.getElem_cons_succ, Act.put, List.setIfInBounds_toArray, List.set_cons_zero, List.set_cons_succ]
  refine wpAnyH_take (i := 12) (v := (.int .i64 er)) rfl (by kernel_rfl) (by kernel_rfl) (by kernel_rfl) (fun _ _ _ h => h) (Or.inl ⟨by rfl, by (intro w hSw; obtain ⟨s0, s1⟩ := hSw; go_simp)⟩) hHeld2 ?_
  try simp only [List.getElem_toArray, List.getElem_cons_zero, List.getElem_cons_succ, Act.put, List.setIfInBounds_toArray, List.set_cons_zero, List.set_cons_succ]
  refine wpAnyH_take (i := 13) (v := (.slice B q d)) rfl (by kernel_rfl) (by kernel_rfl) (by kernel_rfl) (fun _ _ _ h => h) (Or.inl ⟨by rfl, by (intro w hSw; obtain ⟨s0, s1⟩ := hSw; go_simp)⟩) hHeld2 ?_
  try simp only [List.getElem_toArray, List.getElem_cons_zero, List.getElem_cons_succ, Act.put, List.setIfInBounds_toArray, List.set_cons_zero, List.set_cons_succ]
  refine wpAnyH_take (i := 14) (v := (.int .i64 er)) rfl (by kernel_rfl) (by kernel_rfl) (by kernel_rfl) (fun _ _ _ h => h) (Or.inl ⟨by rfl, by (intro w hSw; obtain ⟨s0, s1⟩ := hSw; go_simp)⟩) hHeld2 ?_
  try simp only [List.getElem_toArray, List.getElem_cons_zero, List.getElem_cons_succ, Act.put, List.setIfInBounds_toArray, List.set_cons_zero, List.set_cons_succ]
  refine wpAnyH_done (by kernel_rfl) ?_ _
  have HX3 := Lib.hid ((Ext.drew w).trans hx3)
  have HI3 := Lib.hid hI3
  have HB3 := Lib.hid hB3
  have hql : Hid (x.length = q) := Lib.hid hI3.len
  clear hx3 hI3 hB3 x30 HG
  rcases herd with rfl | rfl | rfl
  case inr.inl =>
    go_wp2_with fail
    go_ret
    exact (HM.out.ext HX3.out).fail (by decide) (fun h => by have := h.1; rw [HE.out] at this; cases this)
  case inr.inr =>
    go_wp2_with fail
    go_ret
    exact (HM.out.ext HX3.out).fail (by decide) (fun h => by have := h.1; rw [HE.out] at this; cases this)
  have hq1 : 1 ≤ q := by rw [← hql.out]; exact HLe.out rfl
  have y0 : w3.cell? ⟨g, 0, none⟩ = some (.slice A n c) := (HM.out.ext HX3.out).cell (by omega) HC.out.1
  have y29 : w3.cell? ⟨g, 29, none⟩ = some (.int .i64 k1) := (HM.out.ext HX3.out).cell (by omega) HC.out.2
  obtain ⟨N, hN⟩ : ∃ N : Nat, cntN k1 = N := ⟨_, rfl⟩
  have hmx : max 1 k1 = (N : Int) := by unfold cntN at hN; omega
  have hN1 : 1 ≤ N := by unfold cntN at hN; omega
  have hN9 : N ≤ 999 := by unfold cntN at hN; omega
  have HN := Lib.hid hN
  obtain ⟨D, hD⟩ : ∃ D : Nat, (200 - n) / q = D := ⟨_, rfl⟩
  have hdv : ((200 : Int) - (n : Int)) / (q : Int) = (D : Int) := by rw [← hD, Int.natCast_ediv]; congr 1; omega
  have HD : Hid (N ≤ D ↔ N * q ≤ 200 - n) := Lib.hid (by rw [← hD]; exact Nat.le_div_iff_mul_le hq1)
  have hDb : D ≤ 200 := by rw [← hD]; exact Nat.le_trans (Nat.div_le_self _ _) (by omega)
  have hq200 : q ≤ 9223372036854775807 := by have := Nat.le_trans HI3.out.ncap HI3.out.nmax; unfold maxLen at this; omega
  clear hN hD
  by_cases hbig : N ≤ D
  case neg =>
    have hlt : D < N := by omega
    have HNo : Hid (¬ PasteOk n rl k1 k2) := Lib.hid (fun h => by
      have h2 := h.2
      rw [HN.out, HX.out, hql.out] at h2
      exact hbig (HD.out.2 (by omega)))
    clear hbig
    go_wp2_with fail
    go_ret
    exact (HM.out.ext HX3.out).fail (by decide) HNo.out
  obtain ⟨M, hM⟩ : ∃ M : Nat, N * q = M := ⟨_, rfl⟩
  have hM2 : M ≤ 200 - n := by rw [← hM]; exact HD.out.1 hbig
  have hMi : (N : Int) * (q : Int) = (M : Int) := by rw [← hM]; exact (Int.natCast_mul N q).symm
  have HMM := Lib.hid hM
  have HRp := Lib.hid (repl_ok (n := N) (N := M) HI3.out hq1 hN1 (by rw [Nat.mul_comm]; exact hM) (by omega))
  clear hM
  go_wp2_with fail
  refine HRp.out.mono ?_
  rintro en w4 ⟨⟨gg, rfl, hO4⟩, hx4⟩
  have HPx := Lib.hid (HPt.out _ _ _ _ _ _ _ _ _ _ _ ((HM.out.ext HX3.out).ext hx4) hO4.ints (fun h => by cases h) (by omega))
  clear hO4 hx4 HRp y0 y29
  go_wp2_with fail
  refine HPx.out.mono ?_
  rintro en w5 ⟨⟨u, rfl⟩, cs5, e5, hm5, hmk5⟩
  have u35 := hm5.oat
  have v35 := hm5.blk.frozen 35
  have hm6 := hm5.setAt ((p : Int) + (M : Int) - 1)
  have HM6 := Lib.hid hm6
  have HMK := Lib.hid hmk5
  clear hm5 hm6 hmk5 HPx
  go_wp2_with fail
  go_ret
  refine HM6.out.done ⟨_, _, _, HM6.out.out, ⟨HE.out, ?_⟩, ?_, HMK.out, ?_⟩
  · rw [HN.out, HX.out, hql.out, HMM.out]; omega
  · rw [HN.out, HX.out]
  · rw [HN.out, HX.out, hql.out, HMM.out]
end Go.Proofs.Ytmhgndjmcignjaa
