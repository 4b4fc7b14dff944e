/-
  each: each word of a part is handed on, in order.
-/
import Derived.Test.YtdkjkcegchohfaaTriE
namespace Go.Proofs.Ytdkjkcegchohfaa
open Go.RowKit Go.Shelf
set_option linter.unusedVariables false
set_option linter.unusedSimpArgs false
attribute [local go_sem] Oper.semAt_some

/-- each at a part: all its words are handed on, in order. -/
def EachP (M : World → Nat → Prop) (J : List (List Int) → World → Prop) (l : Nat) (all : List (List Int)) (b0 K : Nat) (S : List (List Int)) (ns : List Int → TrN) (f : Nat) (p : List Int) : Prop :=
  ∀ (pre : List (List Int)) (W : World) (A : Option Addr) (n c : Nat), J pre W → TrK M W b0 K (FS S) ns → (FS S p).isSome = true → SlT M W A n c p → pre ++ eachF S (kidsS S) f p <+: all →
    Calls Try.prog 56 #[(ns p).ptr, .slice A n c, .func (.yield l) #[] #[]] W fun e W' => e = .returned (.bool true) ∧ J (pre ++ eachF S (kidsS S) f p) W' ∧ Kp M W W'

theorem FS_len {S : List (List Int)} (hS : ∀ x ∈ S, x.length ≤ 24) {p : List Int} (h : (FS S p).isSome = true) : p.length ≤ 24 := by
  unfold FS at h
  split at h
  · rename_i h'
    rcases h' with rfl | ⟨x, hx, hp⟩
    · simp
    · exact Nat.le_trans hp.length_le (hS x hx)
  · cases h
theorem FS_word {S : List (List Int)} {p : List Int} {v : Bool × Nat} (h : FS S p = some v) : v.1 = decide (p ∈ S) := by
  unfold FS at h
  split at h
  · injection h with h; rw [← h]
  · cases h

set_option maxRecDepth 20000 in
set_option maxHeartbeats 4000000 in
theorem each_step {M : World → Nat → Prop} {J : List (List Int) → World → Prop} {B0 l : Nat} {all : List (List Int)} {b0 K : Nat} {S : List (List Int)} {ns : List Int → TrN} (hC : Calm M J B0) (hY : RoundsT M B0 l all J)
    (hS : ∀ x ∈ S, x.length ≤ 24) (hwf : ∀ x ∈ S, ∀ y ∈ x, (Lit.int .i64 y).wf = true) (hK : K ≤ 100000) {f : Nat} {p : List Int} (IH : ∀ c, EachP M J l all b0 K S ns f (p ++ [c])) : EachP M J l all b0 K S ns (f + 1) p := by
  intro pre W A n c hJ hT hp hs hpre
  obtain ⟨v, hv⟩ := Option.isSome_iff_exists.1 hp
  have hw1 := FS_word hv
  have hnl := hs.1.len
  have hp24 := FS_len hS hp
  have c1 := (hT.1.cells hv).2.1
  rw [hw1] at c1
  have hn24 : n ≤ 24 := by omega
  obtain ⟨i0, hi, hz0, hz1, hz2⟩ := info_parts info_int
  obtain ⟨hd, hhd⟩ : ∃ hd, hd = (if p ∈ S then [p] else []) := ⟨_, rfl⟩
  have hE : eachF S (kidsS S) (f + 1) p = hd ++ (kidsS S p).flatMap fun c => eachF S (kidsS S) f (p ++ [c]) := by rw [hhd]; rfl
  rw [hE] at hpre ⊢
  have HWF : Hid (∀ c, (FS S (p ++ [c])).isSome = true → (Lit.int .i64 c).wf = true) := Lib.hid (fun c h => by
    obtain ⟨x, hx, hpx⟩ := FS_kid.1 h
    exact hwf x hx c (hpx.subset (by simp)))
  have HJ := Lib.hid hJ
  have HT := Lib.hid hT
  have HS := Lib.hid hs
  have HPRE := Lib.hid hpre
  have HV := Lib.hid hv
  have HP := Lib.hid hp
  have HY := Lib.hid hY
  have IHX' := Lib.hid IH
  have HHD := Lib.hid hhd
  clear hJ hT hs hpre hv hp hw1 hE hY IH hhd hwf
  unfold TrN.ptr
  go_enter Try.func56, Try.ntmps56
  go_upto_region 1 with fail
  go_cut [19] (fun v wx => v = .bool false ∧ Hid (J (pre ++ hd) wx ∧ Kp M W wx))
  case first =>
    by_cases hw : p ∈ S
    · have e1 : decide (p ∈ S) = true := by simp [hw]
      rw [e1] at c1
      have he : hd = [p] := by rw [HHD.out, if_pos hw]
      have HE := Lib.hid he
      clear e1 hw he
      refine (wpIn_wide (n := 3)).1 ?_
      gi_wp2
      first | (refine CallsIn.mono (callsIn_wide.2 (clone_ok HS.out.1 HS.out.2.1 HS.out.2.2.1)) ?_) | (refine ⟨trivial, ?_⟩; refine CallsIn.mono (callsIn_wide.2 (clone_ok HS.out.1 HS.out.2.1 HS.out.2.2.1)) ?_)
      rintro e w1 ⟨B, d, rfl, hO, hB, he1⟩
      obtain ⟨fn, tmps, assign, body, hy, hR⟩ := HY.out 2 pre p w1 B n d (hC.ext _ _ _ HJ.out he1) (Own.lower hO (hC.low _ _ HJ.out)) hB hn24 (fun g hg => hC.new HJ.out he1 (Own.blk hO g hg).1) (by
        obtain ⟨r, hr⟩ := HPRE.out
        rw [HE.out] at hr
        exact ⟨(kidsS S p).flatMap (fun c => eachF S (kidsS S) f (p ++ [c])) ++ r, by rw [← hr]; simp⟩)
      gi_wp2
      first | (refine hR.mono ?_) | (refine ⟨trivial, ?_⟩; refine hR.mono ?_) | (refine ⟨fun h => (by simp [Fence.wide] at h), ?_⟩; refine hR.mono ?_)
      rintro e W2 ⟨rfl, hJ2, hk2⟩
      have HJ2 := Lib.hid hJ2
      have HK2 := Lib.hid ((hC.kp HJ.out he1).trans hk2)
      clear hJ2 hk2 hy hR hO
      gi_wp2
      try go_wp2_with fail
      go_meet
      exact ⟨rfl, Lib.hid ⟨by rw [HE.out]; exact HJ2.out, HK2.out⟩⟩
    · have e1 : decide (p ∈ S) = false := by simp [hw]
      rw [e1] at c1
      have he : hd = [] := by rw [HHD.out, if_neg hw]
      have HE := Lib.hid he
      clear e1 hw he
      go_wp2_with fail
      go_meet
      exact ⟨rfl, Lib.hid ⟨by rw [HE.out, List.append_nil]; exact HJ.out, Kp.refl _ _⟩⟩
  case rest =>
    obtain ⟨rfl, HC1⟩ := hcut
    have HT1 := Lib.hid (HT.out.kp HC1.out.2)
    have HS1 := Lib.hid (HS.out.kp HC1.out.2)
    have ho := order_ok HT1.out.1 HP.out HWF.out hK
    unfold TrN.ptr at ho
    clear c1
    go_wp2_with fail
    refine ho.mono ?_
    rintro e w2 ⟨A2, n2, c2, O, rfl, hO2, hr1, hr2, hn2, he2⟩
    obtain rfl := kids_of hr1 hr2
    have HJ2 := Lib.hid (hC.ext _ _ _ HC1.out.1 he2)
    have HK2 := Lib.hid (HC1.out.2.trans (hC.kp HC1.out.1 he2))
    have HT2 := Lib.hid (HT1.out.kp (hC.kp HC1.out.1 he2))
    have HS2 := Lib.hid (HS1.out.kp (hC.kp HC1.out.1 he2))
    have HO2 : Hid (SlT M w2 A2 n2 c2 (kidsS S p)) := Lib.hid (OwnI.slT hC HC1.out.1 he2 hO2 (Nat.le_refl _) (by omega))
    have HOL : Hid ((kidsS S p).length = n2) := Lib.hid hO2.ints.len
    have HKM : Hid (∀ x, x ∈ kidsS S p → (FS S (p ++ [x])).isSome = true) := Lib.hid (fun x h => (hr2 x).1 h)
    have hn2m := Nat.le_trans hO2.ints.ncap hO2.ints.nmax
    unfold maxLen at hn2m
    clear ho hO2 hr1 hr2 he2
    go_wp2_with fail
    go_loopw [23] (fun i wr => ∃ k : Nat, k ≤ n2 ∧ i = .int .i64 k ∧ Hid (J (pre ++ hd ++ ((kidsS S p).take k).flatMap (fun c => eachF S (kidsS S) f (p ++ [c]))) wr ∧ Kp M w2 wr)) (fun i _ => n2 + 1 - (intOf i).toNat)
    case atStart => exact ⟨0, by omega, rfl, Lib.hid ⟨by simpa using HJ2.out, Kp.refl _ _⟩⟩
    case round =>
      obtain ⟨k, hk, rfl, HR⟩ := hrel
      by_cases hlt : k < n2
      · obtain ⟨ad2, rfl, hc2⟩ := (HO2.out.kp HR.out.2).1.at_ hlt
        have cx := hc2 k hlt
        obtain ⟨x, hx⟩ : ∃ x, x = gI (kidsS S p) k := ⟨_, rfl⟩
        have hkx : (kidsS S p)[k]? = some x := by
          have hkl : k < (kidsS S p).length := by rw [HOL.out]; exact hlt
          rw [hx]; unfold gI; rw [List.getElem?_eq_getElem hkl]; rfl
        rw [← hx] at cx
        have HFx : Hid ((FS S (p ++ [x])).isSome = true) := Lib.hid (HKM.out x (List.mem_of_getElem? hkx))
        have HTK : Hid ((kidsS S p).take (k + 1) = (kidsS S p).take k ++ [x]) := Lib.hid (by rw [List.take_add_one, hkx]; rfl)
        have HPx : Hid (pre ++ hd ++ ((kidsS S p).take k).flatMap (fun c => eachF S (kidsS S) f (p ++ [c])) ++ eachF S (kidsS S) f (p ++ [x]) <+: all) := Lib.hid (by
          obtain ⟨r, hr⟩ := HPRE.out
          refine ⟨((kidsS S p).drop (k + 1)).flatMap (fun c => eachF S (kidsS S) f (p ++ [c])) ++ r, ?_⟩
          rw [← hr]
          have e : kidsS S p = (kidsS S p).take k ++ [x] ++ (kidsS S p).drop (k + 1) := by rw [← HTK.out, List.take_append_drop]
          conv => rhs; rw [e]
          simp only [List.flatMap_append, List.append_assoc, List.flatMap_cons, List.flatMap_nil, List.append_nil])
        have HJr := Lib.hid HR.out.1
        have HKr := Lib.hid HR.out.2
        have HTr := Lib.hid (HT2.out.kp HR.out.2)
        have HSr := Lib.hid (HS2.out.kp HR.out.2)
        have HTd := Lib.hid (HTr.out.1.ext (Ext.drew wr))
        have IHX := Lib.hid (IHX'.out x)
        have hwx := HWF.out x HFx.out
        have hmm := HTr.out.1.kids p HP.out
        unfold MapAt at hmm
        rcases hm : (ns p).m with _ | m
        · rw [hm] at hmm
          have := HFx.out
          rw [hmm x] at this
          cases this
        · have HSY : Hid (∀ w', TrIs w' b0 K (FS S) ns → w'.cell? ⟨(ns p).a, 0, none⟩ = some (.map (some m)) ∧ (Instr.lookup 95 (.map (some m)) (.int .i64 x) false).run Try.prog w' = .ok (.pointer (some ⟨(ns (p ++ [x])).a, 0, none⟩)) w') := Lib.hid (fun w' h => by
            obtain ⟨c0, _⟩ := h.cells HV.out
            rw [hm] at c0
            refine ⟨c0, ?_⟩
            have h1 := (h.map hm HP.out).2.get Try.underlying95 (zero_trie _) hwx
            unfold kidV at h1
            rw [if_pos HFx.out] at h1
            exact h1)
          have HCl : Hid (∀ W', Ext wr W' → Calls Try.prog 44 #[.slice A n c] W' fun e w' => ∃ B d, e = .returned (.slice B n d) ∧ OwnI w' wr.heap.size B n d p ∧ Ext W' w') := Lib.hid (fun W' he => (clone_ok (HSr.out.1.ext he) HSr.out.2.1 HSr.out.2.2.1).mono fun e w' ⟨B, d, h1, h2, _, h3⟩ => ⟨B, d, h1, Own.lower h2 he.hsize, h3⟩)
          clear hmm hm hx hkx hc2 HR
          go_upto_region 6 with fail
          refine wp_region_held_drew (S := fun w' => w'.cell? ⟨(ns p).a, 0, none⟩ = some (.map (some m)) ∧ (Instr.lookup 95 (.map (some m)) (.int .i64 x) false).run Try.prog w' = .ok (.pointer (some ⟨(ns (p ++ [x])).a, 0, none⟩)) w') (by kernel_rfl) (HSY.out _ HTd.out) (fun hH => ?_)
          refine wpAnyH_take (i := 0) (v := (.pointer (some ⟨(ns p).a, 0, none⟩))) rfl (by kernel_rfl) (by kernel_rfl) (by kernel_rfl) (fun _ _ _ h => h) (Or.inl ⟨by rfl, by (intro w hSw; obtain ⟨q1, q2⟩ := hSw; go_simp)⟩) hH ?_
          try simp only [List.getElem_toArray, List.getElem_cons_zero, List.getElem_cons_succ, Act.put, List.setIfInBounds_toArray, List.set_cons_zero, List.set_cons_succ]
          refine wpAnyH_take (i := 1) (v := (.pointer (some ⟨(ns p).a, 0, none⟩))) rfl (by kernel_rfl) (by kernel_rfl) (by kernel_rfl) (fun _ _ _ h => h) (Or.inl ⟨by rfl, by (intro w hSw; obtain ⟨q1, q2⟩ := hSw; go_simp)⟩) hH ?_
          try simp only [List.getElem_toArray, List.getElem_cons_zero, List.getElem_cons_succ, Act.put, List.setIfInBounds_toArray, List.set_cons_zero, List.set_cons_succ]
          refine wpAnyH_take (i := 2) (v := (.pointer (some ⟨(ns p).a, 0, none⟩))) rfl (by kernel_rfl) (by kernel_rfl) (by kernel_rfl) (fun _ _ _ h => h) (Or.inl ⟨by rfl, by (intro w hSw; obtain ⟨q1, q2⟩ := hSw; go_simp)⟩) hH ?_
          try simp only [List.getElem_toArray, List.getElem_cons_zero, List.getElem_cons_succ, Act.put, List.setIfInBounds_toArray, List.set_cons_zero, List.set_cons_succ]
          refine wpAnyH_take (i := 3) (v := (.map (some m))) rfl (by kernel_rfl) (by kernel_rfl) (by kernel_rfl) (fun _ _ _ h => h) (Or.inl ⟨by rfl, by (intro w hSw; obtain ⟨q1, q2⟩ := hSw; go_simp)⟩) hH ?_
          try simp only [List.getElem_toArray, List.getElem_cons_zero, List.getElem_cons_succ, Act.put, List.setIfInBounds_toArray, List.set_cons_zero, List.set_cons_succ]
          refine wpAnyH_take (i := 4) (v := (.int .i64 x)) rfl (by kernel_rfl) (by kernel_rfl) (by kernel_rfl) (fun _ _ _ h => h) (Or.inl ⟨by rfl, by (intro w hSw; obtain ⟨q1, q2⟩ := hSw; go_simp)⟩) hH ?_
          try simp only [List.getElem_toArray, List.getElem_cons_zero, List.getElem_cons_succ, Act.put, List.setIfInBounds_toArray, List.set_cons_zero, List.set_cons_succ]
          refine wpAnyH_take (i := 5) (v := (.pointer (some ⟨(ns (p ++ [x])).a, 0, none⟩))) rfl (by kernel_rfl) (by kernel_rfl) (by kernel_rfl) (fun _ _ _ h => h) (Or.inl ⟨by rfl, by (intro w hSw; obtain ⟨q1, q2⟩ := hSw; go_simp)⟩) hH ?_
          try simp only [List.getElem_toArray, List.getElem_cons_zero, List.getElem_cons_succ, Act.put, List.setIfInBounds_toArray, List.set_cons_zero, List.set_cons_succ]
          refine wpAnyH_take (i := 6) (v := (.slice A n c)) rfl (by kernel_rfl) (by kernel_rfl) (by kernel_rfl) (fun _ _ _ h => h) (Or.inl ⟨by rfl, by (intro w hSw; obtain ⟨q1, q2⟩ := hSw; go_simp)⟩) hH ?_
          try simp only [List.getElem_toArray, List.getElem_cons_zero, List.getElem_cons_succ, Act.put, List.setIfInBounds_toArray, List.set_cons_zero, List.set_cons_succ]
          refine wpAnyH_take (i := 8) (v := (.int .i64 x)) rfl (by kernel_rfl) (by kernel_rfl) (by kernel_rfl) (fun _ _ _ h => h) (Or.inl ⟨by rfl, by (intro w hSw; obtain ⟨q1, q2⟩ := hSw; go_simp)⟩) hH ?_
          try simp only [List.getElem_toArray, List.getElem_cons_zero, List.getElem_cons_succ, Act.put, List.setIfInBounds_toArray, List.set_cons_zero, List.set_cons_succ]
          refine wpAnyH_take (i := 11) (v := (.func (.yield l) #[] #[])) rfl (by kernel_rfl) (by kernel_rfl) (by kernel_rfl) (fun _ _ _ h => h) (Or.inl ⟨by rfl, by (intro w hSw; obtain ⟨q1, q2⟩ := hSw; go_simp)⟩) hH ?_
          try simp only [List.getElem_toArray, List.getElem_cons_zero, List.getElem_cons_succ, Act.put, List.setIfInBounds_toArray, List.set_cons_zero, List.set_cons_succ]
          refine wpAnyH_ready (rs := [7, 9]) (by kernel_rfl) (by simp) ?_
          refine (AllReadyH.cons rfl (fun K hK => ?_) (AllReadyH.cons rfl (fun K hK => ?_) AllReadyH.nil))
          ·
            refine step_callf rfl 44 #[.slice A n c] rfl (by kernel_rfl) (fun v w' => ∃ B d, v = .slice B n d ∧ OwnI w' wr.heap.size B n d p ∧ Ext wr w') ((HCl.out _ (Ext.drew wr)).mono fun e w' ⟨B, d, h1, h2, h3⟩ => ⟨_, h1, B, d, rfl, h2, (Ext.drew wr).trans h3⟩) ?_
            rintro v w3 ⟨B, d, rfl, hO3, he3⟩
            refine hK.out _ _ (HSY.out _ (HTr.out.1.ext he3)) (fun hH2 => ?_)
            clear hK K
            try simp only [List.getElem_toArray, List.getElem_cons_zero, List.getElem_cons_succ, Act.put, List.setIfInBounds_toArray, List.set_cons_zero, List.set_cons_succ]
            refine wpAnyH_ready (rs := [9]) (by kernel_rfl) (by simp) ?_
            refine (AllReadyH.cons rfl (fun K hK => ?_) AllReadyH.nil)
            go_simp
            have he4 : Ext wr (w3.alloc (.cells #[.int .i64 x] 3)) := he3.to_alloc _
            have hO4 := hO3.ext (Ext.alloc w3 (.cells #[.int .i64 x] 3))
            have hsz5 := he4.hsize
            refine hK.out _ _ (HSY.out _ (HTr.out.1.ext he4)) (fun hH3 => ?_)
            clear hK K
            try simp only [List.getElem_toArray, List.getElem_cons_zero, List.getElem_cons_succ, Act.put, List.setIfInBounds_toArray, List.set_cons_zero, List.set_cons_succ]
            refine wpAnyH_ready (rs := [10]) (by kernel_rfl) (by simp) ?_
            refine (AllReadyH.cons rfl (fun K hK => ?_) AllReadyH.nil)
            refine step_app rfl (.tmp 34) (.tmp 36) 23 rfl wr.heap.size 3 i0 (.int .i64 0) 1 8 Try.underlying23 hi hz0 hz1 hz2 rfl (by decide) B n d _ rfl hO4 ⟨w3.heap.size, 0, none⟩ 1 1 [.int .i64 x] rfl rfl (fun j u hu => by
                have : (⟨w3.heap.size, 0, none⟩ : Addr).add j = ⟨w3.heap.size, j, none⟩ := by simp [Addr.add_lit]
                rw [this, (Blk.new w3 3 #[.int .i64 x]).cell j]
                simpa using hu) (by simp [Value.oneCell']) (by unfold maxLen; omega) (by omega) hsz5 ?_
            intro A' c' w5 k1 k2
            have hO5 : OwnI w5 wr.heap.size A' (n + 1) c' (p ++ [x]) := by unfold OwnI; rw [List.map_append]; exact k1
            have he5 : Ext wr w5 := Ext.grown he4 k2 hO4 (Nat.le_refl _)
            clear k1 k2
            refine hK.out _ _ (HSY.out _ (HTr.out.1.ext he5)) (fun hH4 => ?_)
            clear hK K
            try simp only [List.getElem_toArray, List.getElem_cons_zero, List.getElem_cons_succ, Act.put, List.setIfInBounds_toArray, List.set_cons_zero, List.set_cons_succ]
            refine wpAnyH_ready (rs := [12]) (by kernel_rfl) (by simp) ?_
            refine (AllReadyH.cons rfl (fun K hK => ?_) AllReadyH.nil)
            have hIH := IHX.out _ w5 A' (n + 1) c' (hC.ext _ _ _ HJr.out he5) (HTr.out.kp (hC.kp HJr.out he5)) HFx.out (OwnI.slT hC HJr.out he5 hO5 (Nat.le_refl _) (by omega)) HPx.out
            unfold TrN.ptr at hIH
            refine step_callf rfl 56 #[.pointer (some ⟨(ns (p ++ [x])).a, 0, none⟩), .slice A' (n + 1) c', .func (.yield l) #[] #[]] rfl (by kernel_rfl) (fun v w' => v = .bool true ∧ J (pre ++ hd ++ ((kidsS S p).take k).flatMap (fun c => eachF S (kidsS S) f (p ++ [c])) ++ eachF S (kidsS S) f (p ++ [x])) w' ∧ Kp M w5 w') (hIH.mono fun e w' ⟨h1, h2, h3⟩ => ⟨_, h1, rfl, h2, h3⟩) ?_
            rintro v w6 ⟨rfl, hJ6, hk6⟩
            have hk7 : Kp M wr w6 := (hC.kp HJr.out he5).trans hk6
            refine hK.out _ _ (HSY.out _ (HTr.out.kp hk7).1) (fun hH5 => ?_)
            clear hK K
            try simp only [List.getElem_toArray, List.getElem_cons_zero, List.getElem_cons_succ, Act.put, List.setIfInBounds_toArray, List.set_cons_zero, List.set_cons_succ]
            refine wpAnyH_take (i := 13) (v := (.bool false)) rfl (by kernel_rfl) (by kernel_rfl) (by kernel_rfl) (fun _ _ _ h => h) (Or.inl ⟨by rfl, by (intro w hSw; obtain ⟨q1, q2⟩ := hSw; go_simp)⟩) hH5 ?_
            try simp only [List.getElem_toArray, List.getElem_cons_zero, List.getElem_cons_succ, Act.put, List.setIfInBounds_toArray, List.set_cons_zero, List.set_cons_succ]
            refine wpAnyH_done (by kernel_rfl) ?_ _
            have HJ6 := Lib.hid hJ6
            have HK7 := Lib.hid hk7
            clear hIH hJ6 hk6 hk7 hH5 hH4 hO5 he5 hO4 he4 hsz5
            go_wp2_with fail
            go_roundw
            case rel => exact ⟨k + 1, by omega, by go_num, Lib.hid ⟨by rw [HTK.out, List.flatMap_append]; simpa using HJ6.out, HKr.out.trans HK7.out⟩⟩
            case measure => simp [intOf]; omega
          ·
            go_simp
            have heb : Ext wr (wr.alloc (.cells #[.int .i64 x] 3)).drew := (Ext.alloc wr _).to_drew
            refine hK.out _ _ (HSY.out _ (HTr.out.1.ext heb)) (fun hH2 => ?_)
            clear hK K
            try simp only [List.getElem_toArray, List.getElem_cons_zero, List.getElem_cons_succ, Act.put, List.setIfInBounds_toArray, List.set_cons_zero, List.set_cons_succ]
            refine wpAnyH_ready (rs := [7]) (by kernel_rfl) (by simp) ?_
            refine (AllReadyH.cons rfl (fun K hK => ?_) AllReadyH.nil)
            refine step_callf rfl 44 #[.slice A n c] rfl (by kernel_rfl) (fun v w' => ∃ B d, v = .slice B n d ∧ OwnI w' wr.heap.size B n d p ∧ Ext (wr.alloc (.cells #[.int .i64 x] 3)).drew w') ((HCl.out _ heb).mono fun e w' ⟨B, d, h1, h2, h3⟩ => ⟨_, h1, B, d, rfl, h2, h3⟩) ?_
            rintro v w4 ⟨B, d, rfl, hO4, he3⟩
            have he4 : Ext wr w4 := heb.trans he3
            have hsz5 := he4.hsize
            refine hK.out _ _ (HSY.out _ (HTr.out.1.ext he4)) (fun hH3 => ?_)
            clear hK K
            try simp only [List.getElem_toArray, List.getElem_cons_zero, List.getElem_cons_succ, Act.put, List.setIfInBounds_toArray, List.set_cons_zero, List.set_cons_succ]
            refine wpAnyH_ready (rs := [10]) (by kernel_rfl) (by simp) ?_
            refine (AllReadyH.cons rfl (fun K hK => ?_) AllReadyH.nil)
            refine step_app rfl (.tmp 34) (.tmp 36) 23 rfl wr.heap.size 3 i0 (.int .i64 0) 1 8 Try.underlying23 hi hz0 hz1 hz2 rfl (by decide) B n d _ rfl hO4 ⟨wr.heap.size, 0, none⟩ 1 1 [.int .i64 x] rfl rfl (fun j u hu => by
                have : (⟨wr.heap.size, 0, none⟩ : Addr).add j = ⟨wr.heap.size, j, none⟩ := by simp [Addr.add_lit]
                rw [this]
                refine he3.cell ?_
                show (wr.alloc (.cells #[.int .i64 x] 3)).cell? _ = _
                rw [(Blk.new wr 3 #[.int .i64 x]).cell j]
                simpa using hu) (by simp [Value.oneCell']) (by unfold maxLen; omega) (by omega) hsz5 ?_
            intro A' c' w5 k1 k2
            have hO5 : OwnI w5 wr.heap.size A' (n + 1) c' (p ++ [x]) := by unfold OwnI; rw [List.map_append]; exact k1
            have he5 : Ext wr w5 := Ext.grown he4 k2 hO4 (Nat.le_refl _)
            clear k1 k2
            refine hK.out _ _ (HSY.out _ (HTr.out.1.ext he5)) (fun hH4 => ?_)
            clear hK K
            try simp only [List.getElem_toArray, List.getElem_cons_zero, List.getElem_cons_succ, Act.put, List.setIfInBounds_toArray, List.set_cons_zero, List.set_cons_succ]
            refine wpAnyH_ready (rs := [12]) (by kernel_rfl) (by simp) ?_
            refine (AllReadyH.cons rfl (fun K hK => ?_) AllReadyH.nil)
            have hIH := IHX.out _ w5 A' (n + 1) c' (hC.ext _ _ _ HJr.out he5) (HTr.out.kp (hC.kp HJr.out he5)) HFx.out (OwnI.slT hC HJr.out he5 hO5 (Nat.le_refl _) (by omega)) HPx.out
            unfold TrN.ptr at hIH
            refine step_callf rfl 56 #[.pointer (some ⟨(ns (p ++ [x])).a, 0, none⟩), .slice A' (n + 1) c', .func (.yield l) #[] #[]] rfl (by kernel_rfl) (fun v w' => v = .bool true ∧ J (pre ++ hd ++ ((kidsS S p).take k).flatMap (fun c => eachF S (kidsS S) f (p ++ [c])) ++ eachF S (kidsS S) f (p ++ [x])) w' ∧ Kp M w5 w') (hIH.mono fun e w' ⟨h1, h2, h3⟩ => ⟨_, h1, rfl, h2, h3⟩) ?_
            rintro v w6 ⟨rfl, hJ6, hk6⟩
            have hk7 : Kp M wr w6 := (hC.kp HJr.out he5).trans hk6
            refine hK.out _ _ (HSY.out _ (HTr.out.kp hk7).1) (fun hH5 => ?_)
            clear hK K
            try simp only [List.getElem_toArray, List.getElem_cons_zero, List.getElem_cons_succ, Act.put, List.setIfInBounds_toArray, List.set_cons_zero, List.set_cons_succ]
            refine wpAnyH_take (i := 13) (v := (.bool false)) rfl (by kernel_rfl) (by kernel_rfl) (by kernel_rfl) (fun _ _ _ h => h) (Or.inl ⟨by rfl, by (intro w hSw; obtain ⟨q1, q2⟩ := hSw; go_simp)⟩) hH5 ?_
            try simp only [List.getElem_toArray, List.getElem_cons_zero, List.getElem_cons_succ, Act.put, List.setIfInBounds_toArray, List.set_cons_zero, List.set_cons_succ]
            refine wpAnyH_done (by kernel_rfl) ?_ _
            have HJ6 := Lib.hid hJ6
            have HK7 := Lib.hid hk7
            clear hIH hJ6 hk6 hk7 hH5 hH4 hO5 he5 hO4 he4 hsz5
            go_wp2_with fail
            go_roundw
            case rel => exact ⟨k + 1, by omega, by go_num, Lib.hid ⟨by rw [HTK.out, List.flatMap_append]; simpa using HJ6.out, HKr.out.trans HK7.out⟩⟩
            case measure => simp [intOf]; omega
      · obtain rfl : k = n2 := by omega
        have HF : Hid (J (pre ++ (hd ++ (kidsS S p).flatMap fun c => eachF S (kidsS S) f (p ++ [c]))) wr) := Lib.hid (by
          have := HR.out.1
          rwa [List.take_of_length_le (by rw [HOL.out]; exact Nat.le_refl _), List.append_assoc] at this)
        have HKF := Lib.hid (HK2.out.trans HR.out.2)
        go_wp2_with fail
        go_ret
        exact ⟨rfl, HF.out, HKF.out⟩

theorem each_all {M : World → Nat → Prop} {J : List (List Int) → World → Prop} {B0 l : Nat} {all : List (List Int)} {b0 K : Nat} {S : List (List Int)} {ns : List Int → TrN} (hC : Calm M J B0) (hY : RoundsT M B0 l all J)
    (hS : ∀ x ∈ S, x.length ≤ 24) (hwf : ∀ x ∈ S, ∀ y ∈ x, (Lit.int .i64 y).wf = true) (hK : K ≤ 100000) : ∀ (f : Nat) (p : List Int), 25 ≤ p.length + f → EachP M J l all b0 K S ns f p
  | 0, p, hf => fun pre W A n c hJ hT hp hs hpre => by have := FS_len hS hp; omega
  | f + 1, p, hf => each_step hC hY hS hwf hK fun c => each_all hC hY hS hwf hK f (p ++ [c]) (by simp; omega)
end Go.Proofs.Ytdkjkcegchohfaa
