/-
  slices.symMerge, and slices.SortStableFunc at []int, over what is sorted already: nothing turns.
-/
import Derived.Test.YtdkjkcegchohfaaAbG
namespace Go.Proofs.Ytdkjkcegchohfaa
open Go.RowKit Go.Shelf
set_option linter.unusedVariables false
set_option linter.unusedSimpArgs false
attribute [local go_sem] Oper.semAt_some

set_option maxRecDepth 20000 in
set_option maxHeartbeats 2000000 in
theorem symS_ok {A : Option Addr} {n c f g : Nat} {l : List Int} : ∀ (N : Nat) {a m b : Nat} {w : World}, b - a ≤ N → a < m → m < b → b ≤ n → Ints w A n c l → CmpOn w f g l → (∀ args W, (callFunc f args).run Try.prog W = .ok (.enter f args) W) → n ≤ 100000 →
    Calls Try.prog 63 #[.slice A n c, .int .i64 a, .int .i64 m, .int .i64 b, .func (.func f) #[] #[.pointer (some ⟨g, 0, none⟩)]] w fun e w' => e = .returned (.tuple #[]) ∧ Ext w w'
  | 0, a, m, b, w, hN, ha, hm, hb, hl, hc, eg, hn => absurd hN (by omega)
  | N + 1, a, m, b, w, hN, ha, hm, hb, hl, hc, eg, hn => by
    have HL := Lib.hid hl
    have hnl := hl.len
    have HC := Lib.hid hc
    have hnc := hl.ncap
    have hncm := hl.nmax
    have HNN := Lib.hid hN
    unfold maxLen at hncm
    clear hl hc hN
    have hb5 : b ≤ 100000 := by omega
    by_cases h1 : m = a + 1
    · have hd1 : ((m : Int) - (a : Int) == 1) = true := by simp; omega
      have H1 := Lib.hid h1
      clear h1
      go_enter Try.func63, Try.ntmps63
      go_wp2_with fail
      go_loopw [10, 11] (fun iv jv wr => ∃ j : Nat, m ≤ j ∧ j ≤ b ∧ iv = .int .i64 m ∧ jv = .int .i64 j ∧ Ext w wr) (fun _ jv _ => (intOf jv).toNat)
      case atStart => exact ⟨b, by omega, Nat.le_refl _, rfl, rfl, Ext.refl _⟩
      case round =>
        obtain ⟨j, hj1, hj2, rfl, rfl, he⟩ := hrel
        by_cases hlt : m < j
        · obtain ⟨h, hh⟩ : ∃ h, h = (m + j) / 2 := ⟨_, rfl⟩
          have hhi : ((m : Int) + (j : Int)) / 2 = (h : Int) := by omega
          have hhb : m ≤ h ∧ h < j := by omega
          obtain ⟨hh1, hh2⟩ := hhb
          obtain ⟨ad, rfl, hcc⟩ := HL.out.at_ (k := h) (by omega)
          have hhn : h < n := by omega
          have han : a < n := by omega
          have hah : a < h := by omega
          have HSS : Hid (wr.drew.cell? (ad.add h) = some (.int .i64 (gI l h)) ∧ wr.drew.cell? (ad.add a) = some (.int .i64 (gI l a))) := Lib.hid ⟨he.cell (hcc h (by omega)), he.cell (hcc a (by omega))⟩
          clear hcc hh
          go_wp2_with fail
          refine wp_region_held_drew (S := fun w' => w'.cell? (ad.add h) = some (.int .i64 (gI l h)) ∧ w'.cell? (ad.add a) = some (.int .i64 (gI l a))) (by kernel_rfl) HSS.out (fun hHeld => ?_)
          refine wpAnyH_take (i := 0) (v := (.func (.func f) #[] #[.pointer (some ⟨g, 0, none⟩)])) rfl (by kernel_rfl) (by kernel_rfl) (by kernel_rfl) (fun _ _ _ h => h) (Or.inl ⟨by rfl, by (intro w hSw; obtain ⟨q1, q2⟩ := hSw; go_simp)⟩) hHeld ?_
          try simp only [List.getElem_toArray, List.getElem_cons_zero, List.getElem_cons_succ, Act.put, List.setIfInBounds_toArray, List.set_cons_zero, List.set_cons_succ]
          refine wpAnyH_take (i := 1) (v := (.slice (some ad) n c)) rfl (by kernel_rfl) (by kernel_rfl) (by kernel_rfl) (fun _ _ _ h => h) (Or.inl ⟨by rfl, by (intro w hSw; obtain ⟨q1, q2⟩ := hSw; go_simp)⟩) hHeld ?_
          try simp only [List.getElem_toArray, List.getElem_cons_zero, List.getElem_cons_succ, Act.put, List.setIfInBounds_toArray, List.set_cons_zero, List.set_cons_succ]
          refine wpAnyH_take (i := 2) (v := (.int .i64 h)) rfl (by kernel_rfl) (by kernel_rfl) (by kernel_rfl) (fun _ _ _ h => h) (Or.inl ⟨by rfl, by (intro w hSw; obtain ⟨q1, q2⟩ := hSw; go_simp)⟩) hHeld ?_
          try simp only [List.getElem_toArray, List.getElem_cons_zero, List.getElem_cons_succ, Act.put, List.setIfInBounds_toArray, List.set_cons_zero, List.set_cons_succ]
          refine wpAnyH_take (i := 3) (v := (.pointer (some (ad.add h)))) rfl (by kernel_rfl) (by kernel_rfl) (by kernel_rfl) (fun _ _ _ h => h) (Or.inl ⟨by rfl, by (intro w hSw; obtain ⟨q1, q2⟩ := hSw; go_simp)⟩) hHeld ?_
          try simp only [List.getElem_toArray, List.getElem_cons_zero, List.getElem_cons_succ, Act.put, List.setIfInBounds_toArray, List.set_cons_zero, List.set_cons_succ]
          refine wpAnyH_take (i := 4) (v := (.int .i64 (gI l h))) rfl (by kernel_rfl) (by kernel_rfl) (by kernel_rfl) (fun _ _ _ h => h) (Or.inl ⟨by rfl, by (intro w hSw; obtain ⟨q1, q2⟩ := hSw; go_simp)⟩) hHeld ?_
          try simp only [List.getElem_toArray, List.getElem_cons_zero, List.getElem_cons_succ, Act.put, List.setIfInBounds_toArray, List.set_cons_zero, List.set_cons_succ]
          refine wpAnyH_take (i := 5) (v := (.slice (some ad) n c)) rfl (by kernel_rfl) (by kernel_rfl) (by kernel_rfl) (fun _ _ _ h => h) (Or.inl ⟨by rfl, by (intro w hSw; obtain ⟨q1, q2⟩ := hSw; go_simp)⟩) hHeld ?_
          try simp only [List.getElem_toArray, List.getElem_cons_zero, List.getElem_cons_succ, Act.put, List.setIfInBounds_toArray, List.set_cons_zero, List.set_cons_succ]
          refine wpAnyH_take (i := 6) (v := (.int .i64 a)) rfl (by kernel_rfl) (by kernel_rfl) (by kernel_rfl) (fun _ _ _ h => h) (Or.inl ⟨by rfl, by (intro w hSw; obtain ⟨q1, q2⟩ := hSw; go_simp)⟩) hHeld ?_
          try simp only [List.getElem_toArray, List.getElem_cons_zero, List.getElem_cons_succ, Act.put, List.setIfInBounds_toArray, List.set_cons_zero, List.set_cons_succ]
          refine wpAnyH_take (i := 7) (v := (.pointer (some (ad.add a)))) rfl (by kernel_rfl) (by kernel_rfl) (by kernel_rfl) (fun _ _ _ h => h) (Or.inl ⟨by rfl, by (intro w hSw; obtain ⟨q1, q2⟩ := hSw; go_simp)⟩) hHeld ?_
          try simp only [List.getElem_toArray, List.getElem_cons_zero, List.getElem_cons_succ, Act.put, List.setIfInBounds_toArray, List.set_cons_zero, List.set_cons_succ]
          refine wpAnyH_take (i := 8) (v := (.int .i64 (gI l a))) rfl (by kernel_rfl) (by kernel_rfl) (by kernel_rfl) (fun _ _ _ h => h) (Or.inl ⟨by rfl, by (intro w hSw; obtain ⟨q1, q2⟩ := hSw; go_simp)⟩) hHeld ?_
          try simp only [List.getElem_toArray, List.getElem_cons_zero, List.getElem_cons_succ, Act.put, List.setIfInBounds_toArray, List.set_cons_zero, List.set_cons_succ]
          refine wpAnyH_ready (rs := [9]) (by kernel_rfl) (by simp) ?_
          refine AllReadyH.cons rfl (fun K hK => ?_) AllReadyH.nil
          refine step_callvT (by kernel_rfl) f #[.int .i64 (gI l h), .int .i64 (gI l a), .pointer (some ⟨g, 0, none⟩)] _ rfl (by simp [execOp, resolve, Act.eval, Act.put]; try exact eg _ _) (fun v w' => ∃ z : Int, v = .int .i64 z ∧ 0 < z ∧ Ext wr.drew w') ((HC.out wr.drew (he.trans (Ext.drew wr)) h a (by omega) (by omega)).mono fun e w' ⟨z, h1, h2, h3, h4⟩ => ⟨_, h1, z, rfl, h3 (by omega), h4⟩) ?_
          rintro v w3 ⟨z, rfl, hz, hx3⟩
          have hzn : ¬ z < 0 := by omega
          refine hK.out _ _ ⟨hx3.cell HSS.out.1, hx3.cell HSS.out.2⟩ (fun hHeld2 => ?_)
          clear hK K hHeld
          try simp only [List.getElem_toArray, List.getElem_cons_zero, List.getElem_cons_succ, Act.put, List.setIfInBounds_toArray, List.set_cons_zero, List.set_cons_succ]
          refine wpAnyH_take (i := 10) (v := (.bool false)) rfl (by kernel_rfl) (by kernel_rfl) (by kernel_rfl) (fun _ _ _ h => h) (Or.inl ⟨by rfl, by (intro w hSw; obtain ⟨q1, q2⟩ := hSw; go_simp)⟩) hHeld2 ?_
          try simp only [List.getElem_toArray, List.getElem_cons_zero, List.getElem_cons_succ, Act.put, List.setIfInBounds_toArray, List.set_cons_zero, List.set_cons_succ]
          refine wpAnyH_done (by kernel_rfl) ?_ _
          go_wp2_with fail
          go_roundw
          case rel => exact ⟨h, by omega, by omega, rfl, rfl, he.trans ((Ext.drew wr).trans hx3)⟩
          case measure => simp [intOf]; omega
        · obtain rfl : j = m := by omega
          have hmi : (j : Int) - 1 = (a : Int) := by have := H1.out; omega
          go_wp2_with fail
          refine wp_loop_rounds 1 ?_
          rw [rounds_succ]
          go_wp2_with fail
          refine bodyPost_ret (results_none rfl _ _ _) rfl ?_
          exact ⟨rfl, he⟩
    · have hd1 : ((m : Int) - (a : Int) == 1) = false := by simp; omega
      have H1 := Lib.hid h1
      clear h1
      by_cases h2 : b = m + 1
      · have hd2 : ((b : Int) - (m : Int) == 1) = true := by simp; omega
        have H2 := Lib.hid h2
        clear h2
        go_enter Try.func63, Try.ntmps63
        go_wp2_with fail
        go_loopw [14, 15] (fun iv jv wr => ∃ i : Nat, a ≤ i ∧ i ≤ m ∧ iv = .int .i64 i ∧ jv = .int .i64 m ∧ Ext w wr) (fun iv _ _ => m - (intOf iv).toNat)
        case atStart => exact ⟨a, Nat.le_refl _, by omega, rfl, rfl, Ext.refl _⟩
        case round =>
          obtain ⟨i, hj1, hj2, rfl, rfl, he⟩ := hrel
          by_cases hlt : i < m
          · obtain ⟨h, hh⟩ : ∃ h, h = (i + m) / 2 := ⟨_, rfl⟩
            have hhi : ((i : Int) + (m : Int)) / 2 = (h : Int) := by omega
            have hhb : i ≤ h ∧ h < m := by omega
            obtain ⟨hh1, hh2⟩ := hhb
            obtain ⟨ad, rfl, hcc⟩ := HL.out.at_ (k := h) (by omega)
            have hhn : h < n := by omega
            have hmn : m < n := by omega
            have HSS : Hid (wr.drew.cell? (ad.add m) = some (.int .i64 (gI l m)) ∧ wr.drew.cell? (ad.add h) = some (.int .i64 (gI l h))) := Lib.hid ⟨he.cell (hcc m (by omega)), he.cell (hcc h (by omega))⟩
            clear hcc hh
            go_wp2_with fail
            refine wp_region_held_drew (S := fun w' => w'.cell? (ad.add m) = some (.int .i64 (gI l m)) ∧ w'.cell? (ad.add h) = some (.int .i64 (gI l h))) (by kernel_rfl) HSS.out (fun hHeld => ?_)
            refine wpAnyH_take (i := 0) (v := (.func (.func f) #[] #[.pointer (some ⟨g, 0, none⟩)])) rfl (by kernel_rfl) (by kernel_rfl) (by kernel_rfl) (fun _ _ _ h => h) (Or.inl ⟨by rfl, by (intro w hSw; obtain ⟨q1, q2⟩ := hSw; go_simp)⟩) hHeld ?_
            try simp only [List.getElem_toArray, List.getElem_cons_zero, List.getElem_cons_succ, Act.put, List.setIfInBounds_toArray, List.set_cons_zero, List.set_cons_succ]
            refine wpAnyH_take (i := 1) (v := (.slice (some ad) n c)) rfl (by kernel_rfl) (by kernel_rfl) (by kernel_rfl) (fun _ _ _ h => h) (Or.inl ⟨by rfl, by (intro w hSw; obtain ⟨q1, q2⟩ := hSw; go_simp)⟩) hHeld ?_
            try simp only [List.getElem_toArray, List.getElem_cons_zero, List.getElem_cons_succ, Act.put, List.setIfInBounds_toArray, List.set_cons_zero, List.set_cons_succ]
            refine wpAnyH_take (i := 2) (v := (.int .i64 m)) rfl (by kernel_rfl) (by kernel_rfl) (by kernel_rfl) (fun _ _ _ h => h) (Or.inl ⟨by rfl, by (intro w hSw; obtain ⟨q1, q2⟩ := hSw; go_simp)⟩) hHeld ?_
            try simp only [List.getElem_toArray, List.getElem_cons_zero, List.getElem_cons_succ, Act.put, List.setIfInBounds_toArray, List.set_cons_zero, List.set_cons_succ]
            refine wpAnyH_take (i := 3) (v := (.pointer (some (ad.add m)))) rfl (by kernel_rfl) (by kernel_rfl) (by kernel_rfl) (fun _ _ _ h => h) (Or.inl ⟨by rfl, by (intro w hSw; obtain ⟨q1, q2⟩ := hSw; go_simp)⟩) hHeld ?_
            try simp only [List.getElem_toArray, List.getElem_cons_zero, List.getElem_cons_succ, Act.put, List.setIfInBounds_toArray, List.set_cons_zero, List.set_cons_succ]
            refine wpAnyH_take (i := 4) (v := (.int .i64 (gI l m))) rfl (by kernel_rfl) (by kernel_rfl) (by kernel_rfl) (fun _ _ _ h => h) (Or.inl ⟨by rfl, by (intro w hSw; obtain ⟨q1, q2⟩ := hSw; go_simp)⟩) hHeld ?_
            try simp only [List.getElem_toArray, List.getElem_cons_zero, List.getElem_cons_succ, Act.put, List.setIfInBounds_toArray, List.set_cons_zero, List.set_cons_succ]
            refine wpAnyH_take (i := 5) (v := (.slice (some ad) n c)) rfl (by kernel_rfl) (by kernel_rfl) (by kernel_rfl) (fun _ _ _ h => h) (Or.inl ⟨by rfl, by (intro w hSw; obtain ⟨q1, q2⟩ := hSw; go_simp)⟩) hHeld ?_
            try simp only [List.getElem_toArray, List.getElem_cons_zero, List.getElem_cons_succ, Act.put, List.setIfInBounds_toArray, List.set_cons_zero, List.set_cons_succ]
            refine wpAnyH_take (i := 6) (v := (.int .i64 h)) rfl (by kernel_rfl) (by kernel_rfl) (by kernel_rfl) (fun _ _ _ h => h) (Or.inl ⟨by rfl, by (intro w hSw; obtain ⟨q1, q2⟩ := hSw; go_simp)⟩) hHeld ?_
            try simp only [List.getElem_toArray, List.getElem_cons_zero, List.getElem_cons_succ, Act.put, List.setIfInBounds_toArray, List.set_cons_zero, List.set_cons_succ]
            refine wpAnyH_take (i := 7) (v := (.pointer (some (ad.add h)))) rfl (by kernel_rfl) (by kernel_rfl) (by kernel_rfl) (fun _ _ _ h => h) (Or.inl ⟨by rfl, by (intro w hSw; obtain ⟨q1, q2⟩ := hSw; go_simp)⟩) hHeld ?_
            try simp only [List.getElem_toArray, List.getElem_cons_zero, List.getElem_cons_succ, Act.put, List.setIfInBounds_toArray, List.set_cons_zero, List.set_cons_succ]
            refine wpAnyH_take (i := 8) (v := (.int .i64 (gI l h))) rfl (by kernel_rfl) (by kernel_rfl) (by kernel_rfl) (fun _ _ _ h => h) (Or.inl ⟨by rfl, by (intro w hSw; obtain ⟨q1, q2⟩ := hSw; go_simp)⟩) hHeld ?_
            try simp only [List.getElem_toArray, List.getElem_cons_zero, List.getElem_cons_succ, Act.put, List.setIfInBounds_toArray, List.set_cons_zero, List.set_cons_succ]
            refine wpAnyH_ready (rs := [9]) (by kernel_rfl) (by simp) ?_
            refine AllReadyH.cons rfl (fun K hK => ?_) AllReadyH.nil
            refine step_callvT (by kernel_rfl) f #[.int .i64 (gI l m), .int .i64 (gI l h), .pointer (some ⟨g, 0, none⟩)] _ rfl (by simp [execOp, resolve, Act.eval, Act.put]; try exact eg _ _) (fun v w' => ∃ z : Int, v = .int .i64 z ∧ 0 < z ∧ Ext wr.drew w') ((HC.out wr.drew (he.trans (Ext.drew wr)) m h (by omega) (by omega)).mono fun e w' ⟨z, h1, h2, h3, h4⟩ => ⟨_, h1, z, rfl, h3 (by omega), h4⟩) ?_
            rintro v w3 ⟨z, rfl, hz, hx3⟩
            have hzn : ¬ z < 0 := by omega
            refine hK.out _ _ ⟨hx3.cell HSS.out.1, hx3.cell HSS.out.2⟩ (fun hHeld2 => ?_)
            clear hK K hHeld
            try simp only [List.getElem_toArray, List.getElem_cons_zero, List.getElem_cons_succ, Act.put, List.setIfInBounds_toArray, List.set_cons_zero, List.set_cons_succ]
            refine wpAnyH_take (i := 10) (v := (.bool false)) rfl (by kernel_rfl) (by kernel_rfl) (by kernel_rfl) (fun _ _ _ h => h) (Or.inl ⟨by rfl, by (intro w hSw; obtain ⟨q1, q2⟩ := hSw; go_simp)⟩) hHeld2 ?_
            try simp only [List.getElem_toArray, List.getElem_cons_zero, List.getElem_cons_succ, Act.put, List.setIfInBounds_toArray, List.set_cons_zero, List.set_cons_succ]
            refine wpAnyH_take (i := 11) (v := (.bool true)) rfl (by kernel_rfl) (by kernel_rfl) (by kernel_rfl) (fun _ _ _ h => h) (Or.inl ⟨by rfl, by (intro w hSw; obtain ⟨q1, q2⟩ := hSw; go_simp)⟩) hHeld2 ?_
            try simp only [List.getElem_toArray, List.getElem_cons_zero, List.getElem_cons_succ, Act.put, List.setIfInBounds_toArray, List.set_cons_zero, List.set_cons_succ]
            refine wpAnyH_done (by kernel_rfl) ?_ _
            go_wp2_with fail
            go_roundw
            case rel => exact ⟨h + 1, by omega, by omega, by go_num, rfl, he.trans ((Ext.drew wr).trans hx3)⟩
            case measure => simp [intOf]; omega
          · obtain rfl : i = m := by omega
            go_wp2_with fail
            refine wp_loop_rounds 1 ?_
            rw [rounds_succ]
            go_wp2_with fail
            refine bodyPost_ret (results_none rfl _ _ _) rfl ?_
            exact ⟨rfl, he⟩
      · exact symG_ok N HNN.out ha hm hb HL.out HC.out eg hn H1.out h2 (Lib.hid fun a' m' b' W hW h1 h2 h3 h4 => symS_ok (f := f) (g := g) N h1 h2 h3 h4 (HL.out.ext hW) (HC.out.ext hW) eg hn)
end Go.Proofs.Ytdkjkcegchohfaa
