/-
  rope.build: the walk.
-/
import Derived.Test.YtbfamaccnjnfpaaRopeB
namespace Go.Proofs.Ytbfamaccnjnfpaa
open Go.RowKit
set_option linter.unusedVariables false
set_option linter.unusedSimpArgs false

set_option maxHeartbeats 8000000 in
theorem build_step {f : Nat} {l : List Int} {A : Option Addr} {n c : Nat} {w : World} (IH : Hid (BuildP f)) (hl : Ints w A n c l) (hf : n ≤ f + 1) (hn : n ≤ 4096) (h0 : 0 < n) :
    Calls Try.prog 9 #[.slice A n c] w fun e w' => ∃ v, e = .returned (.pointer v) ∧ TreeAt w' v (Tr.node (Tr.buildF f (l.take (n / 2))) (gI l (n / 2)) (Tr.buildF f (l.drop (n / 2 + 1)))) ∧ Ext w w' := by
  have hnc := hl.ncap
  have hcm := hl.nmax
  have HLEN := Lib.hid hl.len
  unfold maxLen at hcm
  have z1 : ((n : Int) == 0) = false := by simp; omega
  obtain ⟨ad, rfl, hc⟩ := hl.at_ h0
  obtain ⟨h, hh⟩ : ∃ h, h = n / 2 := ⟨_, rfl⟩
  rw [← hh]
  have c1 := hc h (by omega)
  obtain ⟨h1, hh1⟩ : ∃ h1, h1 = h + 1 := ⟨_, rfl⟩
  rw [← hh1]
  have HF := Lib.hid (hl.front (k := h) (by omega))
  have hw1 : IntKind.i64.wrap ((h : Int) + 1) = (h1 : Int) := by rw [IntWalk.i64_in _ (by omega)]; omega
  have HFB : Hid (h ≤ f ∧ n - h1 ≤ f ∧ h ≤ 4096 ∧ n - h1 ≤ 4096) := Lib.hid (by omega)
  have e1 : (n : Int) / 2 = (h : Int) := by omega
  have i1 : (h : Int) < (n : Int) := by omega
  have i2 : (0 : Int) ≤ (h : Int) := by omega
  have i3 : (h1 : Int) ≤ (n : Int) := by omega
  have i4 : (0 : Int) ≤ (h1 : Int) := by omega
  have i5 : (h : Int) ≤ (c : Int) := by omega
  have i6 : ¬ c = 0 := by omega
  have HSZ : Hid ((Tr.buildF f (l.take h)).sz + (Tr.buildF f (l.drop h1)).sz ≤ 1000000) := Lib.hid (by
    have e1 := congrArg List.length (build_spec f (l.take h) (by rw [List.length_take]; omega)).2
    have e2 := congrArg List.length (build_spec f (l.drop h1) (by rw [List.length_drop, HLEN.out]; omega)).2
    rw [Tr.len, List.length_take] at e1
    rw [Tr.len, List.length_drop, HLEN.out] at e2
    omega)
  have hxd := Ext.drew w
  by_cases hcc : c = h1
  · have hn1 : n = h1 := by omega
    have HB : Hid (Ints w (some ad) 0 0 (l.drop h1)) := Lib.hid (by
      have : l.drop h1 = [] := List.drop_eq_nil_of_le (by rw [HLEN.out]; omega)
      rw [this]
      exact ⟨rfl, Nat.le_refl _, Nat.zero_le _, fun h => absurd h (by omega)⟩)
    have HFB : Hid (h ≤ f ∧ 0 ≤ f ∧ h ≤ 4096 ∧ 0 ≤ 4096) := Lib.hid (by omega)
    have HC1 : Hid (∀ (w1 : World) (A' : Option Addr) (n' c' : Nat), (A' = some ad ∧ n' = h ∧ c' = c) → Ext w w1 → Calls Try.prog 9 #[.slice A' n' c'] w1 fun e w' => ∃ v, e = .returned (.pointer v) ∧ TreeAt w' v (Tr.buildF f (l.take h)) ∧ Ext w1 w') :=
      Lib.hid (fun w1 A' n' c' hq he => by
        rw [hq.1, hq.2.1, hq.2.2]
        exact IH.out (l.take h) _ _ _ w1 (HF.out.ext he) HFB.out.1 HFB.out.2.2.1)
    have HC2 : Hid (∀ (w1 : World) (A' : Option Addr) (n' c' : Nat), (A' = (some ad) ∧ n' = 0 ∧ c' = 0) → Ext w w1 → Calls Try.prog 9 #[.slice A' n' c'] w1 fun e w' => ∃ v, e = .returned (.pointer v) ∧ TreeAt w' v (Tr.buildF f (l.drop h1)) ∧ Ext w1 w') :=
      Lib.hid (fun w1 A' n' c' hq he => by
        rw [hq.1, hq.2.1, hq.2.2]
        exact IH.out (l.drop h1) _ _ _ w1 (HB.out.ext he) HFB.out.2.1 HFB.out.2.2.2)
    subst hcc
    subst hn1
    clear hc hh hh1 HF HB IH HFB HLEN hl
    have hall := And.intro HSZ (And.intro HC1 HC2)
    clear HSZ HC1 HC2
    revert hall
    generalize Tr.buildF f (l.take h) = T1
    generalize Tr.buildF f (l.drop n) = T2
    rintro ⟨HSZ, HC1, HC2⟩
    go_enter Try.func9, Try.ntmps9
    go_wp2_with fail
    go_region_held3 (fun w' => w'.cell? (ad.add h) = some (.int .i64 (gI l h))) (first | go_keep | (exact Ext.cell (by assumption) (by assumption))) (first
      | (go_at_call 9
         first
           | (refine (HC1.out _ _ _ _ ⟨by with_reducible rfl, by with_reducible rfl, by with_reducible rfl⟩ (by first | exact hxd | exact hxd.trans (by assumption))).mono ?_
              rintro e wa ⟨v1, rfl, hv1, hea⟩)
           | (refine (HC2.out _ _ _ _ ⟨by with_reducible rfl, by with_reducible rfl, by with_reducible rfl⟩ (by first | exact hxd | exact hxd.trans (by assumption))).mono ?_
              rintro e wb ⟨v2, rfl, hv2, heb⟩))
      | (go_at_call 10
         refine (made_ok (TreeAt.ext heb hv1) hv2 HSZ.out).mono ?_
         rintro e wc ⟨v3, rfl, hv3, hec⟩))
    all_goals
      go_wp2_with fail
      go_ret
      exact ⟨_, rfl, hv3, hxd.trans (hea.trans (heb.trans hec))⟩
  · have HB : Hid (Ints w (some (ad.add h1)) (n - h1) (c - h1) (l.drop h1)) := Lib.hid (hl.back (k := h1) (by omega))
    have HC1 : Hid (∀ (w1 : World) (A' : Option Addr) (n' c' : Nat), (A' = some ad ∧ n' = h ∧ c' = c) → Ext w w1 → Calls Try.prog 9 #[.slice A' n' c'] w1 fun e w' => ∃ v, e = .returned (.pointer v) ∧ TreeAt w' v (Tr.buildF f (l.take h)) ∧ Ext w1 w') :=
      Lib.hid (fun w1 A' n' c' hq he => by
        rw [hq.1, hq.2.1, hq.2.2]
        exact IH.out (l.take h) _ _ _ w1 (HF.out.ext he) HFB.out.1 HFB.out.2.2.1)
    have HC2 : Hid (∀ (w1 : World) (A' : Option Addr) (n' c' : Nat), (A' = some (ad.add h1) ∧ n' = n - h1 ∧ c' = c - h1) → Ext w w1 → Calls Try.prog 9 #[.slice A' n' c'] w1 fun e w' => ∃ v, e = .returned (.pointer v) ∧ TreeAt w' v (Tr.buildF f (l.drop h1)) ∧ Ext w1 w') :=
      Lib.hid (fun w1 A' n' c' hq he => by
        rw [hq.1, hq.2.1, hq.2.2]
        exact IH.out (l.drop h1) _ _ _ w1 (HB.out.ext he) HFB.out.2.1 HFB.out.2.2.2)
    clear hc hh hh1 HF HB IH HFB HLEN hl
    have hall := And.intro HSZ (And.intro HC1 HC2)
    clear HSZ HC1 HC2
    revert hall
    generalize Tr.buildF f (l.take h) = T1
    generalize Tr.buildF f (l.drop h1) = T2
    rintro ⟨HSZ, HC1, HC2⟩
    go_enter Try.func9, Try.ntmps9
    go_wp2_with fail
    go_region_held3 (fun w' => w'.cell? (ad.add h) = some (.int .i64 (gI l h))) (first | go_keep | (exact Ext.cell (by assumption) (by assumption))) (first
      | (go_at_call 9
         first
           | (refine (HC1.out _ _ _ _ ⟨by with_reducible rfl, by with_reducible rfl, by with_reducible rfl⟩ (by first | exact hxd | exact hxd.trans (by assumption))).mono ?_
              rintro e wa ⟨v1, rfl, hv1, hea⟩)
           | (refine (HC2.out _ _ _ _ ⟨by with_reducible rfl, by with_reducible rfl, by with_reducible rfl⟩ (by first | exact hxd | exact hxd.trans (by assumption))).mono ?_
              rintro e wb ⟨v2, rfl, hv2, heb⟩))
      | (go_at_call 10
         refine (made_ok (TreeAt.ext heb hv1) hv2 HSZ.out).mono ?_
         rintro e wc ⟨v3, rfl, hv3, hec⟩))
    all_goals
      go_wp2_with fail
      go_ret
      exact ⟨_, rfl, hv3, hxd.trans (hea.trans (heb.trans hec))⟩
end Go.Proofs.Ytbfamaccnjnfpaa
