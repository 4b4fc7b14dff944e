/-
  slices.symMerge over what is sorted: the case of two parts of two or more.
-/
import Derived.Test.YtdkjkcegchohfaaAbR
namespace Go.Proofs.Ytdkjkcegchohfaa
open Go.RowKit Go.Shelf
set_option linter.unusedVariables false
set_option linter.unusedSimpArgs false
attribute [local go_sem] Oper.semAt_some

/-- What the smaller calls do. -/
def SymR (N n c f g : Nat) (A : Option Addr) (w : World) : Prop := ∀ (a' m' b' : Nat) (W : World), Ext w W → b' - a' ≤ N → a' < m' → m' < b' → b' ≤ n → Calls Try.prog 63 #[.slice A n c, .int .i64 a', .int .i64 m', .int .i64 b', .func (.func f) #[] #[.pointer (some ⟨g, 0, none⟩)]] W fun e w' => e = .returned (.tuple #[]) ∧ Ext W w'
set_option maxRecDepth 20000 in
set_option maxHeartbeats 2000000 in
theorem symG_ok {A : Option Addr} {n c f g : Nat} {l : List Int} (N : Nat) {a m b : Nat} {w : World} (hN : b - a ≤ N + 1) (ha : a < m) (hm : m < b) (hb : b ≤ n) (hl : Ints w A n c l) (hc : CmpOn w f g l) (eg : ∀ args W, (callFunc f args).run Try.prog W = .ok (.enter f args) W) (hn : n ≤ 100000) (h1 : ¬ m = a + 1) (h2 : ¬ b = m + 1) (HR : Hid (SymR N n c f g A w)) :
    Calls Try.prog 63 #[.slice A n c, .int .i64 a, .int .i64 m, .int .i64 b, .func (.func f) #[] #[.pointer (some ⟨g, 0, none⟩)]] w fun e w' => e = .returned (.tuple #[]) ∧ Ext w w' := by
    have HL := Lib.hid hl
    have hnl := hl.len
    have HC := Lib.hid hc
    have hnc := hl.ncap
    have hncm := hl.nmax
    have HNN := Lib.hid hN
    unfold maxLen at hncm
    clear hl hc hN
    have hb5 : b ≤ 100000 := by omega
    have hd1 : ((m : Int) - (a : Int) == 1) = false := by simp; omega
    have hd2 : ((b : Int) - (m : Int) == 1) = false := by simp; omega
    have hma : a + 2 ≤ m := by omega
    have hmb : m + 2 ≤ b := by omega
    clear h1 h2
    obtain ⟨mid, hmid⟩ : ∃ mid, mid = (a + b) / 2 := ⟨_, rfl⟩
    have hmi : ((a : Int) + (b : Int)) / 2 = (mid : Int) := by omega
    have hm1 : a + 2 ≤ mid := by omega
    have hm2 : mid + 2 ≤ b := by omega
    have hm3 : 2 * mid ≤ a + b := by omega
    have hm4 : a + b ≤ 2 * mid + 1 := by omega
    obtain ⟨q0, hq0⟩ : ∃ q0, q0 = mid + m := ⟨_, rfl⟩
    have hqi : (mid : Int) + (m : Int) = (q0 : Int) := by omega
    obtain ⟨p, hp⟩ : ∃ p, q0 = p + 1 := ⟨q0 - 1, by omega⟩
    have hpi : (q0 : Int) - 1 = (p : Int) := by omega
    by_cases hgt : mid < m
    · obtain ⟨s0, hs0⟩ : ∃ s0, s0 = q0 - b := ⟨_, rfl⟩
      have hsi : (q0 : Int) - (b : Int) = (s0 : Int) := by omega
      have hei : (q0 : Int) - (mid : Int) = (m : Int) := by omega
      have hs1 : a ≤ s0 := by omega
      have hs2 : s0 ≤ mid := by omega
      have HQ := Lib.hid (show q0 = mid + m ∧ q0 = p + 1 ∧ s0 + b = q0 by omega)
      clear hmid hq0 hp hs0 hm3 hm4
      go_enter Try.func63, Try.ntmps63
      go_wp2_with fail
      go_loopw [20, 21] (fun sv rv wr => ∃ s : Nat, s0 ≤ s ∧ s ≤ mid ∧ sv = .int .i64 s ∧ rv = .int .i64 mid ∧ Ext w wr) (fun sv _ _ => mid - (intOf sv).toNat)
      case atStart => exact ⟨s0, Nat.le_refl _, hs2, rfl, rfl, Ext.refl _⟩
      case round =>
        obtain ⟨s, hj1, hj2, rfl, rfl, he⟩ := hrel
        by_cases hlt : s < mid
        · obtain ⟨h, hh⟩ : ∃ h, h = (s + mid) / 2 := ⟨_, rfl⟩
          have hhi : ((s : Int) + (mid : Int)) / 2 = (h : Int) := by omega
          have hhb : s ≤ h ∧ h < mid := by omega
          obtain ⟨hh1, hh2⟩ := hhb
          obtain ⟨e1, hee⟩ : ∃ e1, e1 = p - h := ⟨_, rfl⟩
          obtain ⟨u1, u2, u3⟩ := HQ.out
          have hei2 : (p : Int) - (h : Int) = (e1 : Int) := by omega
          have he1 : h < e1 := by omega
          have he2 : e1 < b := by omega
          have hew : IntKind.i64.wrap (e1 : Int) = (e1 : Int) := by simp [IntKind.wrap, IntKind.bits, IntKind.signed]; omega
          clear u1 u2 u3
          obtain ⟨ad, rfl, hcc⟩ := HL.out.at_ (k := h) (by omega)
          have hhn : h < n := by omega
          have hen : e1 < n := by omega
          have HSS : Hid (wr.drew.cell? (ad.add e1) = some (.int .i64 (gI l e1)) ∧ wr.drew.cell? (ad.add h) = some (.int .i64 (gI l h))) := Lib.hid ⟨he.cell (hcc e1 (by omega)), he.cell (hcc h (by omega))⟩
          clear hcc hh hee
          go_wp2_with fail
          refine wp_region_held_drew (S := fun w' => w'.cell? (ad.add e1) = some (.int .i64 (gI l e1)) ∧ w'.cell? (ad.add h) = some (.int .i64 (gI l h))) (by kernel_rfl) HSS.out (fun hHeld => ?_)
          refine wpAnyH_take (i := 0) (v := (.func (.func f) #[] #[.pointer (some ⟨g, 0, none⟩)])) rfl (by kernel_rfl) (by kernel_rfl) (by kernel_rfl) (fun _ _ _ h => h) (Or.inl ⟨by rfl, by (intro w hSw; obtain ⟨q1, q2⟩ := hSw; go_simp)⟩) hHeld ?_
          try simp only [List.getElem_toArray, List.getElem_cons_zero, List.getElem_cons_succ, Act.put, List.setIfInBounds_toArray, List.set_cons_zero, List.set_cons_succ]
          refine wpAnyH_take (i := 1) (v := (.slice (some ad) n c)) rfl (by kernel_rfl) (by kernel_rfl) (by kernel_rfl) (fun _ _ _ h => h) (Or.inl ⟨by rfl, by (intro w hSw; obtain ⟨q1, q2⟩ := hSw; go_simp)⟩) hHeld ?_
          try simp only [List.getElem_toArray, List.getElem_cons_zero, List.getElem_cons_succ, Act.put, List.setIfInBounds_toArray, List.set_cons_zero, List.set_cons_succ]
          refine wpAnyH_take (i := 2) (v := (.int .i64 p)) rfl (by kernel_rfl) (by kernel_rfl) (by kernel_rfl) (fun _ _ _ h => h) (Or.inl ⟨by rfl, by (intro w hSw; obtain ⟨q1, q2⟩ := hSw; go_simp)⟩) hHeld ?_
          try simp only [List.getElem_toArray, List.getElem_cons_zero, List.getElem_cons_succ, Act.put, List.setIfInBounds_toArray, List.set_cons_zero, List.set_cons_succ]
          refine wpAnyH_take (i := 3) (v := (.int .i64 h)) rfl (by kernel_rfl) (by kernel_rfl) (by kernel_rfl) (fun _ _ _ h => h) (Or.inl ⟨by rfl, by (intro w hSw; obtain ⟨q1, q2⟩ := hSw; go_simp)⟩) hHeld ?_
          try simp only [List.getElem_toArray, List.getElem_cons_zero, List.getElem_cons_succ, Act.put, List.setIfInBounds_toArray, List.set_cons_zero, List.set_cons_succ]
          refine wpAnyH_take (i := 4) (v := (.int .i64 e1)) rfl (by kernel_rfl) (by kernel_rfl) (by kernel_rfl) (fun _ _ _ h => h) (Or.inl ⟨by rfl, by (intro w hSw; obtain ⟨q1, q2⟩ := hSw; go_simp)⟩) hHeld ?_
          try simp only [List.getElem_toArray, List.getElem_cons_zero, List.getElem_cons_succ, Act.put, List.setIfInBounds_toArray, List.set_cons_zero, List.set_cons_succ]
          refine wpAnyH_take (i := 5) (v := (.pointer (some (ad.add e1)))) rfl (by kernel_rfl) (by kernel_rfl) (by kernel_rfl) (fun _ _ _ h => h) (Or.inl ⟨by rfl, by (intro w hSw; obtain ⟨q1, q2⟩ := hSw; go_simp)⟩) hHeld ?_
          try simp only [List.getElem_toArray, List.getElem_cons_zero, List.getElem_cons_succ, Act.put, List.setIfInBounds_toArray, List.set_cons_zero, List.set_cons_succ]
          refine wpAnyH_take (i := 6) (v := (.int .i64 (gI l e1))) rfl (by kernel_rfl) (by kernel_rfl) (by kernel_rfl) (fun _ _ _ h => h) (Or.inl ⟨by rfl, by (intro w hSw; obtain ⟨q1, q2⟩ := hSw; go_simp)⟩) hHeld ?_
          try simp only [List.getElem_toArray, List.getElem_cons_zero, List.getElem_cons_succ, Act.put, List.setIfInBounds_toArray, List.set_cons_zero, List.set_cons_succ]
          refine wpAnyH_take (i := 7) (v := (.slice (some ad) n c)) rfl (by kernel_rfl) (by kernel_rfl) (by kernel_rfl) (fun _ _ _ h => h) (Or.inl ⟨by rfl, by (intro w hSw; obtain ⟨q1, q2⟩ := hSw; go_simp)⟩) hHeld ?_
          try simp only [List.getElem_toArray, List.getElem_cons_zero, List.getElem_cons_succ, Act.put, List.setIfInBounds_toArray, List.set_cons_zero, List.set_cons_succ]
          refine wpAnyH_take (i := 8) (v := (.int .i64 h)) rfl (by kernel_rfl) (by kernel_rfl) (by kernel_rfl) (fun _ _ _ h => h) (Or.inl ⟨by rfl, by (intro w hSw; obtain ⟨q1, q2⟩ := hSw; go_simp)⟩) hHeld ?_
          try simp only [List.getElem_toArray, List.getElem_cons_zero, List.getElem_cons_succ, Act.put, List.setIfInBounds_toArray, List.set_cons_zero, List.set_cons_succ]
          refine wpAnyH_take (i := 9) (v := (.pointer (some (ad.add h)))) rfl (by kernel_rfl) (by kernel_rfl) (by kernel_rfl) (fun _ _ _ h => h) (Or.inl ⟨by rfl, by (intro w hSw; obtain ⟨q1, q2⟩ := hSw; go_simp)⟩) hHeld ?_
          try simp only [List.getElem_toArray, List.getElem_cons_zero, List.getElem_cons_succ, Act.put, List.setIfInBounds_toArray, List.set_cons_zero, List.set_cons_succ]
          refine wpAnyH_take (i := 10) (v := (.int .i64 (gI l h))) rfl (by kernel_rfl) (by kernel_rfl) (by kernel_rfl) (fun _ _ _ h => h) (Or.inl ⟨by rfl, by (intro w hSw; obtain ⟨q1, q2⟩ := hSw; go_simp)⟩) hHeld ?_
          try simp only [List.getElem_toArray, List.getElem_cons_zero, List.getElem_cons_succ, Act.put, List.setIfInBounds_toArray, List.set_cons_zero, List.set_cons_succ]
          refine wpAnyH_ready (rs := [11]) (by kernel_rfl) (by simp) ?_
          refine AllReadyH.cons rfl (fun K hK => ?_) AllReadyH.nil
          refine step_callvT (by kernel_rfl) f #[.int .i64 (gI l e1), .int .i64 (gI l h), .pointer (some ⟨g, 0, none⟩)] _ rfl (by simp [execOp, resolve, Act.eval, Act.put]; try exact eg _ _) (fun v w' => ∃ z : Int, v = .int .i64 z ∧ 0 < z ∧ Ext wr.drew w') ((HC.out wr.drew (he.trans (Ext.drew wr)) e1 h (by omega) (by omega)).mono fun e w' ⟨z, h1, h2, h3, h4⟩ => ⟨_, h1, z, rfl, h3 (by omega), h4⟩) ?_
          rintro v w3 ⟨z, rfl, hz, hx3⟩
          have hzn : ¬ z < 0 := by omega
          refine hK.out _ _ ⟨hx3.cell HSS.out.1, hx3.cell HSS.out.2⟩ (fun hHeld2 => ?_)
          clear hK K hHeld
          try simp only [List.getElem_toArray, List.getElem_cons_zero, List.getElem_cons_succ, Act.put, List.setIfInBounds_toArray, List.set_cons_zero, List.set_cons_succ]
          refine wpAnyH_take (i := 12) (v := (.bool false)) rfl (by kernel_rfl) (by kernel_rfl) (by kernel_rfl) (fun _ _ _ h => h) (Or.inl ⟨by rfl, by (intro w hSw; obtain ⟨q1, q2⟩ := hSw; go_simp)⟩) hHeld2 ?_
          try simp only [List.getElem_toArray, List.getElem_cons_zero, List.getElem_cons_succ, Act.put, List.setIfInBounds_toArray, List.set_cons_zero, List.set_cons_succ]
          refine wpAnyH_take (i := 13) (v := (.bool true)) rfl (by kernel_rfl) (by kernel_rfl) (by kernel_rfl) (fun _ _ _ h => h) (Or.inl ⟨by rfl, by (intro w hSw; obtain ⟨q1, q2⟩ := hSw; go_simp)⟩) hHeld2 ?_
          try simp only [List.getElem_toArray, List.getElem_cons_zero, List.getElem_cons_succ, Act.put, List.setIfInBounds_toArray, List.set_cons_zero, List.set_cons_succ]
          refine wpAnyH_done (by kernel_rfl) ?_ _
          go_wp2_with fail
          go_roundw
          case rel => exact ⟨h + 1, by omega, by omega, by go_num, rfl, he.trans ((Ext.drew wr).trans hx3)⟩
          case measure => simp [intOf]; omega
        · obtain rfl : s = mid := by omega
          have hwm : IntKind.i64.wrap (m : Int) = (m : Int) := by simp [IntKind.wrap, IntKind.bits, IntKind.signed]; omega
          go_wp2_with fail
          refine (HR.out s m b wr he (by have := HNN.out; omega) hgt (by omega) hb).mono ?_
          rintro e w4 ⟨rfl, hx⟩
          go_wp2_with fail
          go_end0
          exact ⟨rfl, he.trans hx⟩
    · have hei : (q0 : Int) - (m : Int) = (mid : Int) := by omega
      have hs2 : m ≤ mid := by omega
      have HQ := Lib.hid (show q0 = mid + m ∧ q0 = p + 1 ∧ 2 * mid ≤ a + b by omega)
      clear hmid hq0 hp hm3 hm4
      go_enter Try.func63, Try.ntmps63
      go_wp2_with fail
      go_loopw [20, 21] (fun sv rv wr => ∃ s : Nat, a ≤ s ∧ s ≤ m ∧ sv = .int .i64 s ∧ rv = .int .i64 m ∧ Ext w wr) (fun sv _ _ => m - (intOf sv).toNat)
      case atStart => exact ⟨a, Nat.le_refl _, by omega, rfl, rfl, Ext.refl _⟩
      case round =>
        obtain ⟨s, hj1, hj2, rfl, rfl, he⟩ := hrel
        by_cases hlt : s < m
        · obtain ⟨h, hh⟩ : ∃ h, h = (s + m) / 2 := ⟨_, rfl⟩
          have hhi : ((s : Int) + (m : Int)) / 2 = (h : Int) := by omega
          have hhb : s ≤ h ∧ h < m := by omega
          obtain ⟨hh1, hh2⟩ := hhb
          obtain ⟨e1, hee⟩ : ∃ e1, e1 = p - h := ⟨_, rfl⟩
          obtain ⟨u1, u2, u3⟩ := HQ.out
          have hei2 : (p : Int) - (h : Int) = (e1 : Int) := by omega
          have he1 : h < e1 := by omega
          have he2 : e1 < b := by omega
          have hew : IntKind.i64.wrap (e1 : Int) = (e1 : Int) := by simp [IntKind.wrap, IntKind.bits, IntKind.signed]; omega
          clear u1 u2 u3
          obtain ⟨ad, rfl, hcc⟩ := HL.out.at_ (k := h) (by omega)
          have hhn : h < n := by omega
          have hen : e1 < n := by omega
          have HSS : Hid (wr.drew.cell? (ad.add e1) = some (.int .i64 (gI l e1)) ∧ wr.drew.cell? (ad.add h) = some (.int .i64 (gI l h))) := Lib.hid ⟨he.cell (hcc e1 (by omega)), he.cell (hcc h (by omega))⟩
          clear hcc hh hee
          go_wp2_with fail
          refine wp_region_held_drew (S := fun w' => w'.cell? (ad.add e1) = some (.int .i64 (gI l e1)) ∧ w'.cell? (ad.add h) = some (.int .i64 (gI l h))) (by kernel_rfl) HSS.out (fun hHeld => ?_)
          refine wpAnyH_take (i := 0) (v := (.func (.func f) #[] #[.pointer (some ⟨g, 0, none⟩)])) rfl (by kernel_rfl) (by kernel_rfl) (by kernel_rfl) (fun _ _ _ h => h) (Or.inl ⟨by rfl, by (intro w hSw; obtain ⟨q1, q2⟩ := hSw; go_simp)⟩) hHeld ?_
          try simp only [List.getElem_toArray, List.getElem_cons_zero, List.getElem_cons_succ, Act.put, List.setIfInBounds_toArray, List.set_cons_zero, List.set_cons_succ]
          refine wpAnyH_take (i := 1) (v := (.slice (some ad) n c)) rfl (by kernel_rfl) (by kernel_rfl) (by kernel_rfl) (fun _ _ _ h => h) (Or.inl ⟨by rfl, by (intro w hSw; obtain ⟨q1, q2⟩ := hSw; go_simp)⟩) hHeld ?_
          try simp only [List.getElem_toArray, List.getElem_cons_zero, List.getElem_cons_succ, Act.put, List.setIfInBounds_toArray, List.set_cons_zero, List.set_cons_succ]
          refine wpAnyH_take (i := 2) (v := (.int .i64 p)) rfl (by kernel_rfl) (by kernel_rfl) (by kernel_rfl) (fun _ _ _ h => h) (Or.inl ⟨by rfl, by (intro w hSw; obtain ⟨q1, q2⟩ := hSw; go_simp)⟩) hHeld ?_
          try simp only [List.getElem_toArray, List.getElem_cons_zero, List.getElem_cons_succ, Act.put, List.setIfInBounds_toArray, List.set_cons_zero, List.set_cons_succ]
          refine wpAnyH_take (i := 3) (v := (.int .i64 h)) rfl (by kernel_rfl) (by kernel_rfl) (by kernel_rfl) (fun _ _ _ h => h) (Or.inl ⟨by rfl, by (intro w hSw; obtain ⟨q1, q2⟩ := hSw; go_simp)⟩) hHeld ?_
          try simp only [List.getElem_toArray, List.getElem_cons_zero, List.getElem_cons_succ, Act.put, List.setIfInBounds_toArray, List.set_cons_zero, List.set_cons_succ]
          refine wpAnyH_take (i := 4) (v := (.int .i64 e1)) rfl (by kernel_rfl) (by kernel_rfl) (by kernel_rfl) (fun _ _ _ h => h) (Or.inl ⟨by rfl, by (intro w hSw; obtain ⟨q1, q2⟩ := hSw; go_simp)⟩) hHeld ?_
          try simp only [List.getElem_toArray, List.getElem_cons_zero, List.getElem_cons_succ, Act.put, List.setIfInBounds_toArray, List.set_cons_zero, List.set_cons_succ]
          refine wpAnyH_take (i := 5) (v := (.pointer (some (ad.add e1)))) rfl (by kernel_rfl) (by kernel_rfl) (by kernel_rfl) (fun _ _ _ h => h) (Or.inl ⟨by rfl, by (intro w hSw; obtain ⟨q1, q2⟩ := hSw; go_simp)⟩) hHeld ?_
          try simp only [List.getElem_toArray, List.getElem_cons_zero, List.getElem_cons_succ, Act.put, List.setIfInBounds_toArray, List.set_cons_zero, List.set_cons_succ]
          refine wpAnyH_take (i := 6) (v := (.int .i64 (gI l e1))) rfl (by kernel_rfl) (by kernel_rfl) (by kernel_rfl) (fun _ _ _ h => h) (Or.inl ⟨by rfl, by (intro w hSw; obtain ⟨q1, q2⟩ := hSw; go_simp)⟩) hHeld ?_
          try simp only [List.getElem_toArray, List.getElem_cons_zero, List.getElem_cons_succ, Act.put, List.setIfInBounds_toArray, List.set_cons_zero, List.set_cons_succ]
          refine wpAnyH_take (i := 7) (v := (.slice (some ad) n c)) rfl (by kernel_rfl) (by kernel_rfl) (by kernel_rfl) (fun _ _ _ h => h) (Or.inl ⟨by rfl, by (intro w hSw; obtain ⟨q1, q2⟩ := hSw; go_simp)⟩) hHeld ?_
          try simp only [List.getElem_toArray, List.getElem_cons_zero, List.getElem_cons_succ, Act.put, List.setIfInBounds_toArray, List.set_cons_zero, List.set_cons_succ]
          refine wpAnyH_take (i := 8) (v := (.int .i64 h)) rfl (by kernel_rfl) (by kernel_rfl) (by kernel_rfl) (fun _ _ _ h => h) (Or.inl ⟨by rfl, by (intro w hSw; obtain ⟨q1, q2⟩ := hSw; go_simp)⟩) hHeld ?_
          try simp only [List.getElem_toArray, List.getElem_cons_zero, List.getElem_cons_succ, Act.put, List.setIfInBounds_toArray, List.set_cons_zero, List.set_cons_succ]
          refine wpAnyH_take (i := 9) (v := (.pointer (some (ad.add h)))) rfl (by kernel_rfl) (by kernel_rfl) (by kernel_rfl) (fun _ _ _ h => h) (Or.inl ⟨by rfl, by (intro w hSw; obtain ⟨q1, q2⟩ := hSw; go_simp)⟩) hHeld ?_
          try simp only [List.getElem_toArray, List.getElem_cons_zero, List.getElem_cons_succ, Act.put, List.setIfInBounds_toArray, List.set_cons_zero, List.set_cons_succ]
          refine wpAnyH_take (i := 10) (v := (.int .i64 (gI l h))) rfl (by kernel_rfl) (by kernel_rfl) (by kernel_rfl) (fun _ _ _ h => h) (Or.inl ⟨by rfl, by (intro w hSw; obtain ⟨q1, q2⟩ := hSw; go_simp)⟩) hHeld ?_
          try simp only [List.getElem_toArray, List.getElem_cons_zero, List.getElem_cons_succ, Act.put, List.setIfInBounds_toArray, List.set_cons_zero, List.set_cons_succ]
          refine wpAnyH_ready (rs := [11]) (by kernel_rfl) (by simp) ?_
          refine AllReadyH.cons rfl (fun K hK => ?_) AllReadyH.nil
          refine step_callvT (by kernel_rfl) f #[.int .i64 (gI l e1), .int .i64 (gI l h), .pointer (some ⟨g, 0, none⟩)] _ rfl (by simp [execOp, resolve, Act.eval, Act.put]; try exact eg _ _) (fun v w' => ∃ z : Int, v = .int .i64 z ∧ 0 < z ∧ Ext wr.drew w') ((HC.out wr.drew (he.trans (Ext.drew wr)) e1 h (by omega) (by omega)).mono fun e w' ⟨z, h1, h2, h3, h4⟩ => ⟨_, h1, z, rfl, h3 (by omega), h4⟩) ?_
          rintro v w3 ⟨z, rfl, hz, hx3⟩
          have hzn : ¬ z < 0 := by omega
          refine hK.out _ _ ⟨hx3.cell HSS.out.1, hx3.cell HSS.out.2⟩ (fun hHeld2 => ?_)
          clear hK K hHeld
          try simp only [List.getElem_toArray, List.getElem_cons_zero, List.getElem_cons_succ, Act.put, List.setIfInBounds_toArray, List.set_cons_zero, List.set_cons_succ]
          refine wpAnyH_take (i := 12) (v := (.bool false)) rfl (by kernel_rfl) (by kernel_rfl) (by kernel_rfl) (fun _ _ _ h => h) (Or.inl ⟨by rfl, by (intro w hSw; obtain ⟨q1, q2⟩ := hSw; go_simp)⟩) hHeld2 ?_
          try simp only [List.getElem_toArray, List.getElem_cons_zero, List.getElem_cons_succ, Act.put, List.setIfInBounds_toArray, List.set_cons_zero, List.set_cons_succ]
          refine wpAnyH_take (i := 13) (v := (.bool true)) rfl (by kernel_rfl) (by kernel_rfl) (by kernel_rfl) (fun _ _ _ h => h) (Or.inl ⟨by rfl, by (intro w hSw; obtain ⟨q1, q2⟩ := hSw; go_simp)⟩) hHeld2 ?_
          try simp only [List.getElem_toArray, List.getElem_cons_zero, List.getElem_cons_succ, Act.put, List.setIfInBounds_toArray, List.set_cons_zero, List.set_cons_succ]
          refine wpAnyH_done (by kernel_rfl) ?_ _
          go_wp2_with fail
          go_roundw
          case rel => exact ⟨h + 1, by omega, by omega, by go_num, rfl, he.trans ((Ext.drew wr).trans hx3)⟩
          case measure => simp [intOf]; omega
        · obtain rfl : s = m := by omega
          by_cases hlm : s < mid
          · go_wp2_with fail
            refine (HR.out a s mid wr he (by have := HNN.out; omega) ha hlm (by omega)).mono ?_
            rintro e w4 ⟨rfl, hx⟩
            go_wp2_with fail
            go_end0
            exact ⟨rfl, he.trans hx⟩
          · go_wp2_with fail
            go_end0
            exact ⟨rfl, he⟩
end Go.Proofs.Ytdkjkcegchohfaa
