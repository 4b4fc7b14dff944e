/-
  The walk of TrieWords.
-/
import Derived.Test.YtdkjkcegchohfaaTriS
import Derived.Test.YtdkjkcegchohfaaTriT
namespace Go.Proofs.Ytdkjkcegchohfaa
open Go.RowKit
set_option linter.unusedVariables false
set_option linter.unusedSimpArgs false
attribute [local go_sem] Oper.semAt_some

/-- What follows where nothing panics. -/
def calmly (K : Act → World → Prop) : Exit → Act → World → Prop
  | .normal, a, w => K a w
  | _, _, _ => False
theorem wp_calm {P : Program} {c : Code} {K : Act → World → Prop} {Q : Exit → Act → World → Prop} {a : Act} {w : World} (h : c.wp P (calmly K) a w) : c.wp P (Exit.then K Q) a w :=
  wp_mono h fun e a w he => by
    cases e with
    | normal => exact he
    | _ => exact he.elim
theorem dist_ab : distinct [chars ⟨#[97, 98]⟩, chars ⟨#[97]⟩, chars ⟨#[97, 98]⟩] = [[97], [97, 98]] := by
  have e : chars ⟨#[97, 98]⟩ = [97, 98] := by simp [chars]
  rw [e, ch_a]; simp [distinct, moreS]
theorem good_ab : GoodT [chars ⟨#[97, 98]⟩, chars ⟨#[97]⟩, chars ⟨#[97, 98]⟩] := ⟨by simp, fun i hi => by
  simp at hi
  rcases (show i = 0 ∨ i = 1 ∨ i = 2 by omega) with rfl | rfl | rfl <;> decide⟩
theorem wf_ab : WfL [chars ⟨#[97, 98]⟩, chars ⟨#[97]⟩, chars ⟨#[97, 98]⟩] := fun i hi => by
  simp at hi
  have e : chars ⟨#[97, 98]⟩ = [97, 98] := by simp [chars]
  rw [e, ch_a]
  rcases (show i = 0 ∨ i = 1 ∨ i = 2 by omega) with rfl | rfl | rfl
  · exact wf_small (by simp [gL])
  · exact wf_small (by simp [gL])
  · exact wf_small (by simp [gL])
theorem gL_mem {ls : List (List Int)} {j : Nat} (h : j < ls.length) : gL ls j ∈ ls := by
  unfold gL
  rw [List.getElem?_eq_getElem h]
  exact List.getElem_mem _
theorem rises_at {L : List (List Int)} (h : Rises L) {j : Nat} (h0 : 0 < j) (hj : j < L.length) : ltL (gL L (j - 1)) (gL L j) := by
  have := (List.pairwise_iff_getElem.1 h) (j - 1) j (by omega) hj (by omega)
  unfold gL
  rw [List.getElem?_eq_getElem (by omega), List.getElem?_eq_getElem hj]
  exact this
/-- The beginning of a word is the list: the test. -/
theorem filter_at {L : List (List Int)} {p : List Int → Bool} {j : Nat} (hj : j < L.length) (h : p (gL L j) = true) : gL (L.filter p) ((L.take j).filter p).length = gL L j ∧ ((L.take j).filter p).length < (L.filter p).length := by
  have e : L = L.take j ++ gL L j :: L.drop (j + 1) := by
    have h1 : gL L j = L[j] := by unfold gL; rw [List.getElem?_eq_getElem hj]; rfl
    rw [h1, ← List.drop_eq_getElem_cons hj, List.take_append_drop]
  have e2 : L.filter p = (L.take j).filter p ++ gL L j :: (L.drop (j + 1)).filter p := by
    conv => lhs; rw [e]
    rw [List.filter_append, List.filter_cons, if_pos h]
  constructor
  · rw [e2]
    unfold gL
    rw [List.getElem?_append_right (Nat.le_refl _), Nat.sub_self]
    rfl
  · rw [e2]; simp
theorem filter_step {L : List (List Int)} {p : List Int → Bool} {j : Nat} (hj : j < L.length) : ((L.take (j + 1)).filter p).length = ((L.take j).filter p).length + if p (gL L j) = true then 1 else 0 := by
  rw [← take_gL hj, List.filter_append, List.length_append, List.filter_cons]
  split <;> simp
theorem take_pre {q y : List Int} (h : q.length ≤ y.length) : eqB (y.take q.length) q = decide (q <+: y) := by
  rw [Bool.eq_iff_iff, eqB_true]
  simp only [decide_eq_true_eq]
  constructor
  · intro e; rw [← e]; exact List.take_prefix _ _
  · rintro ⟨r, rfl⟩; simp

set_option maxRecDepth 20000 in
set_option maxHeartbeats 8000000 in
theorem trieWords_walk {A Q : Option Addr} {n c m d : Nat} {ls : List (List Int)} {q : List Int} {w : World} (hl : Lns w A n c ls) (hwf : WfL ls) (hq : Ints w Q m d q) (hQ : Q = none → d = 0) (hq8 : m * 8 ≤ 140737488351232) (hwq : ∀ y ∈ q, (Lit.int .i64 y).wf = true) :
    Calls Try.prog 8 #[.slice A n c, .slice Q m d] w fun e w' => e = .returned (.bool true) ∧ Ext w w' := by
  have HL := Lib.hid hl
  have HLN := Lib.hid hl.len
  have HQ := Lib.hid hq
  have HQN := Lib.hid hq.len
  have HWF := Lib.hid hwf
  have HWQ := Lib.hid hwq
  have HQ0 := Lib.hid hQ
  have hmq := Nat.le_trans hq.ncap hq.nmax
  have hqc := hq.ncap
  have hncx := Nat.le_trans hl.ncap hl.nmax
  unfold maxLen at hmq hncx
  clear hl hq hwf hwq hQ
  refine (callsIn_wide (n := 3)).1 (callsIn_of_wp_marks Try.func8 rfl trivial ((wpIn_wide (n := 3)).2 ?_) rfl)
  simp only [Try.ntmps8, List.size_toArray, List.length_cons, List.length_nil, Nat.reduceAdd, Nat.reduceSub, Array.replicate_succ, Array.replicate_zero, List.push_toArray, List.append_toArray, List.nil_append, List.cons_append]
  go_wp2_with fail
  refine (of_ok _ _ (by decide)).mono ?_
  rintro e w1 ⟨A1, c1, rfl, ho1, he1⟩
  go_wp2_with fail
  refine (of_ok _ _ (by decide)).mono ?_
  rintro e w2 ⟨A2, c2, rfl, ho2, he2⟩
  go_wp2_with fail
  refine (of_ok _ _ (by decide)).mono ?_
  rintro e w3 ⟨A3, c3, rfl, ho3, he3⟩
  have eA := Ext.alloc w3 (.cells #[.slice A1 2 c1, .slice A2 1 c2, .slice A3 2 c3] 23)
  have hlit := Lns.lit (W := w3) (vs := [.slice A1 2 c1, .slice A2 1 c2, .slice A3 2 c3]) (n := 3) ((((LnV.nil _).more ((ho1.reg (by decide)).to (he2.trans (he3.trans eA)))).more ((ho2.reg (by decide)).to (he3.trans eA))).more ((ho3.reg (by decide)).to eA)) rfl (by decide)
  have hnw := tnew_ok hlit wf_ab
  rw [show ([] ++ [chars ⟨#[97, 98]⟩] ++ [chars ⟨#[97]⟩] ++ [chars ⟨#[97, 98]⟩] : List (List Int)) = [chars ⟨#[97, 98]⟩, chars ⟨#[97]⟩, chars ⟨#[97, 98]⟩] from rfl, dist_ab] at hnw
  go_wp2_with fail
  refine hnw.mono ?_
  rintro e w4 ⟨he4, ⟨hb, _⟩ | ⟨_, b0, K, ns, hb0, hK, hT, rfl⟩⟩
  · exact absurd good_ab hb
  have HX4 := Lib.hid (he1.trans (he2.trans (he3.trans (eA.trans he4))))
  have hC := tcount_ok hT (Ints.none_ w4) (by simp)
  rw [cnt_atF, show cntF [[97], [97, 98]] [] = 2 from by decide] at hC
  unfold TrN.ptr at hC ⊢
  have HT := Lib.hid hT
  clear eA he1 he2 he3 he4 hlit hnw ho1 ho2 ho3 hT
  go_wp2_with fail
  refine hC.mono ?_
  rintro e w4 ⟨rfl, rfl⟩
  clear hC
  go_wp2_with fail
  refine (of_ok _ _ (by decide)).mono ?_
  rintro e w5 ⟨A5, c5, rfl, ho5, he5⟩
  rw [ch_a] at ho5
  have hH := thas_ok (HT.out.ext he5) ho5.ints (wf_small (by simp))
  rw [show (atF (FS [[97], [97, 98]]) [97]).1 = true from by rw [atF_FS]; decide] at hH
  unfold TrN.ptr at hH
  go_wp2_with fail
  refine hH.mono ?_
  rintro e w5 ⟨rfl, rfl⟩
  have HX5 := Lib.hid (HX4.out.trans he5)
  have HT5 := Lib.hid (HT.out.ext he5)
  clear hH he5 ho5 HT
  go_wp2_with fail
  refine (of_ok _ _ (by decide)).mono ?_
  rintro e w6 ⟨A6, c6, rfl, ho6, he6⟩
  rw [ch_b] at ho6
  have hH := thas_ok (HT5.out.ext he6) ho6.ints (wf_small (by simp))
  rw [show (atF (FS [[97], [97, 98]]) [98]).1 = false from by rw [atF_FS]; decide] at hH
  unfold TrN.ptr at hH
  go_wp2_with fail
  refine hH.mono ?_
  rintro e w6 ⟨rfl, rfl⟩
  have HX6 := Lib.hid (HX5.out.trans he6)
  have hnw := tnew_ok (HL.out.ext HX6.out) HWF.out
  clear hH he6 ho6 HT5
  go_wp2_with fail
  refine hnw.mono ?_
  rintro e w8 ⟨he8, ⟨hb, rfl⟩ | ⟨hgood, b0, K, ns, hb0, hK, hT, rfl⟩⟩
  · have HX8 := Lib.hid (HX6.out.trans he8)
    clear hnw he8 hb
    go_wp2_with fail
    refine ⟨.bool true, ?_, rfl, HX8.out⟩
    simp [results, Try.results8, go_sem]
  obtain ⟨S, hSd⟩ : ∃ S, S = distinct ls := ⟨_, rfl⟩
  rw [← hSd] at hT
  have hS24 := Lib.hid (hSd ▸ good_dist hgood)
  have hSW := Lib.hid (hSd ▸ wf_dist HWF.out)
  have hSN : Hid S.Nodup := Lib.hid (hSd ▸ nodup_distinct ls)
  have hSL : Hid (S.length ≤ 100) := Lib.hid (by rw [hSd]; exact Nat.le_trans (len_distinct ls) hgood.1)
  have HSM : Hid (∀ x, x ∈ S ↔ x ∈ ls) := Lib.hid (fun x => by rw [hSd]; exact mem_distinct)
  have HX8 := Lib.hid (HX6.out.trans he8)
  have HT := Lib.hid hT
  have hLs := tlist_ok (most := 1048576) (by decide) hS24.out hSW.out (by omega) HT.out (Ints.none_ w8) (fun _ => rfl) (by omega) (by simp) (len_each hS24.out hSN.out hSL.out [])
  unfold TrN.ptr at hLs ⊢
  have HLS := Lib.hid hLs
  obtain ⟨AL, hAL⟩ : ∃ AL, AL = eachF S (kidsS S) 25 [] := ⟨_, rfl⟩
  have HAL := Lib.hid hAL
  have HAM : Hid (∀ x, x ∈ AL ↔ x ∈ S) := Lib.hid (fun x => by rw [hAL, mem_each (kidsS_ok S) hS24.out 25 [] (by simp)]; simp)
  have HAR : Hid (Rises AL) := Lib.hid (by rw [hAL]; exact rises_each (kidsS_ok S) 25 [])
  clear hnw he8 hgood hT hSd hLs hAL
  go_wp2_with fail
  refine HLS.out.mono ?_
  rintro e w9 ⟨B9, k9, d9, rfl, hL9, he9⟩
  rw [← HAL.out] at hL9
  have HL9 := Lib.hid hL9.lns
  have HX9 := Lib.hid (HX8.out.trans he9)
  have HT9 := Lib.hid (HT.out.ext he9)
  have hk9 := hL9.lns.ncap
  have hk9m := hL9.lns.nmax
  unfold maxLen at hk9m
  have HALn : Hid (AL.length = k9) := Lib.hid hL9.lns.len
  clear HLS hL9 he9 HT
  go_wp2_with fail
  go_loopw [60] (fun i wr => ∃ j : Nat, j ≤ k9 ∧ i = .int .i64 j ∧ Ext w9 wr) (fun i _ => k9 - (intOf i).toNat)
  case atStart => exact ⟨0, by omega, rfl, Ext.refl _⟩
  case round =>
    obtain ⟨j, hj, rfl, he⟩ := hrel
    by_cases hlt : j < k9
    · obtain ⟨ad, v, rfl, hc, B, mw, dw, rfl, hi, hBd, hm8⟩ := HL9.out.at_ hlt
      have c1 := he.cell hc
      have hAj := gL_mem (ls := AL) (j := j) (by rw [HALn.out]; exact hlt)
      have HI := Lib.hid hi
      have HAj := Lib.hid hAj
      clear hc hi hAj
      have hbx := Blk.new wr 23 #[.slice B mw dw]
      have hxb : Ext wr (wr.alloc (.cells #[.slice B mw dw] 23)).drew := (Ext.alloc wr _).to_drew
      have cgx : (wr.alloc (.cells #[.slice B mw dw] 23)).drew.cell? ⟨wr.heap.size, 0, none⟩ = some (.slice B mw dw) := by
        show (wr.alloc (.cells #[.slice B mw dw] 23)).cell? _ = _
        rw [hbx.cell 0]; rfl
      have HIb := Lib.hid (HI.out.ext (he.trans hxb))
      have hHa := thas_ok (HT9.out.ext (he.trans hxb)) HIb.out (hSW.out _ ((HAM.out _).1 HAj.out))
      rw [show (atF (FS S) (gL AL j)).1 = true from by rw [atF_FS]; simp [(HAM.out _).1 HAj.out]] at hHa
      unfold TrN.ptr at hHa
      have HHa := Lib.hid hHa
      have HCo := Lib.hid (containsL_ok (g := wr.heap.size) (x := gL AL j) (HL.out.ext (HX9.out.trans (he.trans hxb))) (enters_of Try.func33 (by kernel_rfl) rfl) (fun W A n c l hW hi => same1_ok hi (HIb.out.ext hW) (hW.cell cgx)) ((HSM.out _).1 ((HAM.out _).1 HAj.out)))
      go_wp2_with fail
      rcases Nat.eq_zero_or_pos j with rfl | hj0
      · have HSS := Lib.hid cgx
        clear hHa hbx cgx
        refine wp_calm ?_
        refine wp_region_held_drew (S := fun w' => w'.cell? ⟨wr.heap.size, 0, none⟩ = some (.slice B mw dw)) (by kernel_rfl) HSS.out (fun hHeld => ?_)
        refine wpAnyH_take (i := 0) (v := (.int .i64 (0 : Nat))) rfl (by kernel_rfl) (by kernel_rfl) (by kernel_rfl) (fun _ _ _ h => h) (Or.inl ⟨by rfl, by (intro w hSw; obtain q1 := hSw; go_simp)⟩) hHeld ?_
        try simp only [List.getElem_toArray, List.getElem_cons_zero, List.getElem_cons_succ, Act.put, List.setIfInBounds_toArray, List.set_cons_zero, List.set_cons_succ]
        refine wpAnyH_take (i := 1) (v := (.bool false)) rfl (by kernel_rfl) (by kernel_rfl) (by kernel_rfl) (fun _ _ _ h => h) (Or.inl ⟨by rfl, by (intro w hSw; obtain q1 := hSw; go_simp)⟩) hHeld ?_
        try simp only [List.getElem_toArray, List.getElem_cons_zero, List.getElem_cons_succ, Act.put, List.setIfInBounds_toArray, List.set_cons_zero, List.set_cons_succ]
        refine wpAnyH_take (i := 2) (v := (.bool false)) rfl (by kernel_rfl) (by kernel_rfl) (by kernel_rfl) (fun _ _ _ h => h) (Or.inl ⟨by rfl, by (intro w hSw; obtain q1 := hSw; go_simp)⟩) hHeld ?_
        try simp only [List.getElem_toArray, List.getElem_cons_zero, List.getElem_cons_succ, Act.put, List.setIfInBounds_toArray, List.set_cons_zero, List.set_cons_succ]
        refine wpAnyH_take (i := 3) (v := undef) rfl (by kernel_rfl) (by kernel_rfl) (by kernel_rfl) (fun _ _ _ h => h) (Or.inr ⟨by kernel_rfl, rfl⟩) hHeld ?_
        try simp only [List.getElem_toArray, List.getElem_cons_zero, List.getElem_cons_succ, Act.put, List.setIfInBounds_toArray, List.set_cons_zero, List.set_cons_succ]
        refine wpAnyH_take (i := 4) (v := undef) rfl (by kernel_rfl) (by kernel_rfl) (by kernel_rfl) (fun _ _ _ h => h) (Or.inr ⟨by kernel_rfl, rfl⟩) hHeld ?_
        try simp only [List.getElem_toArray, List.getElem_cons_zero, List.getElem_cons_succ, Act.put, List.setIfInBounds_toArray, List.set_cons_zero, List.set_cons_succ]
        refine wpAnyH_take (i := 5) (v := undef) rfl (by kernel_rfl) (by kernel_rfl) (by kernel_rfl) (fun _ _ _ h => h) (Or.inr ⟨by kernel_rfl, rfl⟩) hHeld ?_
        try simp only [List.getElem_toArray, List.getElem_cons_zero, List.getElem_cons_succ, Act.put, List.setIfInBounds_toArray, List.set_cons_zero, List.set_cons_succ]
        refine wpAnyH_take (i := 6) (v := undef) rfl (by kernel_rfl) (by kernel_rfl) (by kernel_rfl) (fun _ _ _ h => h) (Or.inr ⟨by kernel_rfl, rfl⟩) hHeld ?_
        try simp only [List.getElem_toArray, List.getElem_cons_zero, List.getElem_cons_succ, Act.put, List.setIfInBounds_toArray, List.set_cons_zero, List.set_cons_succ]
        refine wpAnyH_take (i := 7) (v := undef) rfl (by kernel_rfl) (by kernel_rfl) (by kernel_rfl) (fun _ _ _ h => h) (Or.inr ⟨by kernel_rfl, rfl⟩) hHeld ?_
        try simp only [List.getElem_toArray, List.getElem_cons_zero, List.getElem_cons_succ, Act.put, List.setIfInBounds_toArray, List.set_cons_zero, List.set_cons_succ]
        refine wpAnyH_take (i := 8) (v := undef) rfl (by kernel_rfl) (by kernel_rfl) (by kernel_rfl) (fun _ _ _ h => h) (Or.inr ⟨by kernel_rfl, rfl⟩) hHeld ?_
        try simp only [List.getElem_toArray, List.getElem_cons_zero, List.getElem_cons_succ, Act.put, List.setIfInBounds_toArray, List.set_cons_zero, List.set_cons_succ]
        refine wpAnyH_take (i := 9) (v := undef) rfl (by kernel_rfl) (by kernel_rfl) (by kernel_rfl) (fun _ _ _ h => h) (Or.inr ⟨by kernel_rfl, rfl⟩) hHeld ?_
        try simp only [List.getElem_toArray, List.getElem_cons_zero, List.getElem_cons_succ, Act.put, List.setIfInBounds_toArray, List.set_cons_zero, List.set_cons_succ]
        refine wpAnyH_take (i := 10) (v := undef) rfl (by kernel_rfl) (by kernel_rfl) (by kernel_rfl) (fun _ _ _ h => h) (Or.inr ⟨by kernel_rfl, rfl⟩) hHeld ?_
        try simp only [List.getElem_toArray, List.getElem_cons_zero, List.getElem_cons_succ, Act.put, List.setIfInBounds_toArray, List.set_cons_zero, List.set_cons_succ]
        refine wpAnyH_take (i := 11) (v := (.bool false)) rfl (by kernel_rfl) (by kernel_rfl) (by kernel_rfl) (fun _ _ _ h => h) (Or.inl ⟨by rfl, by (intro w hSw; obtain q1 := hSw; go_simp)⟩) hHeld ?_
        try simp only [List.getElem_toArray, List.getElem_cons_zero, List.getElem_cons_succ, Act.put, List.setIfInBounds_toArray, List.set_cons_zero, List.set_cons_succ]
        refine wpAnyH_take (i := 12) (v := (.bool false)) rfl (by kernel_rfl) (by kernel_rfl) (by kernel_rfl) (fun _ _ _ h => h) (Or.inl ⟨by rfl, by (intro w hSw; obtain q1 := hSw; go_simp)⟩) hHeld ?_
        try simp only [List.getElem_toArray, List.getElem_cons_zero, List.getElem_cons_succ, Act.put, List.setIfInBounds_toArray, List.set_cons_zero, List.set_cons_succ]
        refine wpAnyH_take (i := 13) (v := (.pointer (some ⟨(ns []).a, 0, none⟩))) rfl (by kernel_rfl) (by kernel_rfl) (by kernel_rfl) (fun _ _ _ h => h) (Or.inl ⟨by kernel_rfl, by (intro w hSw; obtain q1 := hSw; go_simp)⟩) hHeld ?_
        try simp only [List.getElem_toArray, List.getElem_cons_zero, List.getElem_cons_succ, Act.put, List.setIfInBounds_toArray, List.set_cons_zero, List.set_cons_succ]
        refine wpAnyH_take (i := 14) (v := (.slice B mw dw)) rfl (by kernel_rfl) (by kernel_rfl) (by kernel_rfl) (fun _ _ _ h => h) (Or.inl ⟨by kernel_rfl, by (intro w hSw; obtain q1 := hSw; go_simp)⟩) hHeld ?_
        try simp only [List.getElem_toArray, List.getElem_cons_zero, List.getElem_cons_succ, Act.put, List.setIfInBounds_toArray, List.set_cons_zero, List.set_cons_succ]
        refine wpAnyH_ready (rs := [15]) (by kernel_rfl) (by simp) ?_
        refine AllReadyH.cons rfl (fun K hK => ?_) AllReadyH.nil
        refine step_callwT (by kernel_rfl) 30 #[.pointer (some ⟨(ns []).a, 0, none⟩), .slice B mw dw] rfl (by kernel_rfl) (fun v w' => v = .bool true ∧ w' = (wr.alloc (.cells #[.slice B mw dw] 23)).drew) (HHa.out.mono fun e w' ⟨h1, h2⟩ => ⟨_, h2, rfl, h1⟩) ?_
        rintro v w' ⟨rfl, rfl⟩
        refine hK.out _ _ HSS.out (fun hHeld2 => ?_)
        clear hK K hHeld
        try simp only [List.getElem_toArray, List.getElem_cons_zero, List.getElem_cons_succ, Act.put, List.setIfInBounds_toArray, List.set_cons_zero, List.set_cons_succ]
        refine wpAnyH_take (i := 16) (v := (.bool false)) rfl (by kernel_rfl) (by kernel_rfl) (by kernel_rfl) (fun _ _ _ h => h) (Or.inl ⟨by kernel_rfl, by (intro w hSw; obtain q1 := hSw; go_simp)⟩) hHeld2 ?_
        try simp only [List.getElem_toArray, List.getElem_cons_zero, List.getElem_cons_succ, Act.put, List.setIfInBounds_toArray, List.set_cons_zero, List.set_cons_succ]
        refine wpAnyH_take (i := 17) (v := (.bool false)) rfl (by kernel_rfl) (by kernel_rfl) (by kernel_rfl) (fun _ _ _ h => h) (Or.inl ⟨by rfl, by (intro w hSw; obtain q1 := hSw; go_simp)⟩) hHeld2 ?_
        try simp only [List.getElem_toArray, List.getElem_cons_zero, List.getElem_cons_succ, Act.put, List.setIfInBounds_toArray, List.set_cons_zero, List.set_cons_succ]
        refine wpAnyH_take (i := 18) (v := (.bool false)) rfl (by kernel_rfl) (by kernel_rfl) (by kernel_rfl) (fun _ _ _ h => h) (Or.inl ⟨by rfl, by (intro w hSw; obtain q1 := hSw; go_simp)⟩) hHeld2 ?_
        try simp only [List.getElem_toArray, List.getElem_cons_zero, List.getElem_cons_succ, Act.put, List.setIfInBounds_toArray, List.set_cons_zero, List.set_cons_succ]
        refine wpAnyH_take (i := 19) (v := (.slice A n c)) rfl (by kernel_rfl) (by kernel_rfl) (by kernel_rfl) (fun _ _ _ h => h) (Or.inl ⟨by kernel_rfl, by (intro w hSw; obtain q1 := hSw; go_simp)⟩) hHeld2 ?_
        try simp only [List.getElem_toArray, List.getElem_cons_zero, List.getElem_cons_succ, Act.put, List.setIfInBounds_toArray, List.set_cons_zero, List.set_cons_succ]
        refine wpAnyH_take (i := 20) (v := (.func (.func 33) #[] #[.pointer (some ⟨wr.heap.size, 0, none⟩)])) rfl (by kernel_rfl) (by kernel_rfl) (by kernel_rfl) (fun _ _ _ h => h) (Or.inl ⟨by kernel_rfl, by (intro w hSw; obtain q1 := hSw; go_simp)⟩) hHeld2 ?_
        try simp only [List.getElem_toArray, List.getElem_cons_zero, List.getElem_cons_succ, Act.put, List.setIfInBounds_toArray, List.set_cons_zero, List.set_cons_succ]
        refine wpAnyH_ready (rs := [21]) (by kernel_rfl) (by simp) ?_
        refine AllReadyH.cons rfl (fun K hK => ?_) AllReadyH.nil
        refine step_callwT (by kernel_rfl) 32 #[.slice A n c, .func (.func 33) #[] #[.pointer (some ⟨wr.heap.size, 0, none⟩)]] rfl (by kernel_rfl) (fun v w' => v = .bool true ∧ Ext (wr.alloc (.cells #[.slice B mw dw] 23)).drew w') (HCo.out.mono fun e w' ⟨h1, h2⟩ => ⟨_, h1, rfl, h2⟩) ?_
        rintro v w10 ⟨rfl, hx10⟩
        refine hK.out _ _ (hx10.cell HSS.out) (fun hHeld3 => ?_)
        clear hK K hHeld2
        try simp only [List.getElem_toArray, List.getElem_cons_zero, List.getElem_cons_succ, Act.put, List.setIfInBounds_toArray, List.set_cons_zero, List.set_cons_succ]
        refine wpAnyH_take (i := 22) (v := (.bool false)) rfl (by kernel_rfl) (by kernel_rfl) (by kernel_rfl) (fun _ _ _ h => h) (Or.inl ⟨by kernel_rfl, by (intro w hSw; obtain q1 := hSw; go_simp)⟩) hHeld3 ?_
        try simp only [List.getElem_toArray, List.getElem_cons_zero, List.getElem_cons_succ, Act.put, List.setIfInBounds_toArray, List.set_cons_zero, List.set_cons_succ]
        refine wpAnyH_take (i := 23) (v := (.bool false)) rfl (by kernel_rfl) (by kernel_rfl) (by kernel_rfl) (fun _ _ _ h => h) (Or.inl ⟨by rfl, by (intro w hSw; obtain q1 := hSw; go_simp)⟩) hHeld3 ?_
        try simp only [List.getElem_toArray, List.getElem_cons_zero, List.getElem_cons_succ, Act.put, List.setIfInBounds_toArray, List.set_cons_zero, List.set_cons_succ]
        refine wpAnyH_done (by kernel_rfl) ?_ _
        unfold calmly
        go_wp2_with fail
        go_roundw
        case rel => exact ⟨1, by omega, by go_num, (he.trans hxb).trans hx10⟩
        case measure => simp [intOf]; omega
      · obtain ⟨J, hJ⟩ : ∃ J, j = J + 1 := ⟨j - 1, by omega⟩
        have hJi : (j : Int) - 1 = (J : Int) := by omega
        obtain ⟨ad', vp, e', hcp, Bp, mp, dp, rfl, hip, _, _⟩ := HL9.out.at_ (k := J) (by omega)
        injection e' with e'
        subst e'
        have cpx := hxb.cell (he.cell hcp)
        have hlt' := rises_at HAR.out hj0 (by rw [HALn.out]; exact hlt)
        rw [show j - 1 = J by omega] at hlt'
        have HCm := Lib.hid (compare_ok (hip.ext (he.trans hxb)) HIb.out hlt')
        have HSS := Lib.hid (And.intro cgx cpx)
        have hJk : J < k9 := by omega
        have hJw : IntKind.i64.wrap (J : Int) = (J : Int) := by simp [IntKind.wrap, IntKind.bits, IntKind.signed]; omega
        clear hHa hbx cgx cpx hcp hip hlt' hJ
        refine wp_calm ?_
        refine wp_region_held_drew (S := fun w' => w'.cell? ⟨wr.heap.size, 0, none⟩ = some (.slice B mw dw) ∧ w'.cell? (ad.add J) = some (.slice Bp mp dp)) (by kernel_rfl) HSS.out (fun hHeld => ?_)
        refine wpAnyH_take (i := 0) (v := (.int .i64 j)) rfl (by kernel_rfl) (by kernel_rfl) (by kernel_rfl) (fun _ _ _ h => h) (Or.inl ⟨by rfl, by (intro w hSw; obtain ⟨q1, q2⟩ := hSw; go_simp)⟩) hHeld ?_
        try simp only [List.getElem_toArray, List.getElem_cons_zero, List.getElem_cons_succ, Act.put, List.setIfInBounds_toArray, List.set_cons_zero, List.set_cons_succ]
        refine wpAnyH_take (i := 1) (v := (.bool true)) rfl (by kernel_rfl) (by kernel_rfl) (by kernel_rfl) (fun _ _ _ h => h) (Or.inl ⟨by rfl, by (intro w hSw; obtain ⟨q1, q2⟩ := hSw; go_simp)⟩) hHeld ?_
        try simp only [List.getElem_toArray, List.getElem_cons_zero, List.getElem_cons_succ, Act.put, List.setIfInBounds_toArray, List.set_cons_zero, List.set_cons_succ]
        refine wpAnyH_take (i := 2) (v := (.bool true)) rfl (by kernel_rfl) (by kernel_rfl) (by kernel_rfl) (fun _ _ _ h => h) (Or.inl ⟨by rfl, by (intro w hSw; obtain ⟨q1, q2⟩ := hSw; go_simp)⟩) hHeld ?_
        try simp only [List.getElem_toArray, List.getElem_cons_zero, List.getElem_cons_succ, Act.put, List.setIfInBounds_toArray, List.set_cons_zero, List.set_cons_succ]
        refine wpAnyH_take (i := 3) (v := (.slice (some ad) k9 d9)) rfl (by kernel_rfl) (by kernel_rfl) (by kernel_rfl) (fun _ _ _ h => h) (Or.inl ⟨by kernel_rfl, by (intro w hSw; obtain ⟨q1, q2⟩ := hSw; go_simp)⟩) hHeld ?_
        try simp only [List.getElem_toArray, List.getElem_cons_zero, List.getElem_cons_succ, Act.put, List.setIfInBounds_toArray, List.set_cons_zero, List.set_cons_succ]
        refine wpAnyH_take (i := 4) (v := (.int .i64 j)) rfl (by kernel_rfl) (by kernel_rfl) (by kernel_rfl) (fun _ _ _ h => h) (Or.inl ⟨by kernel_rfl, by (intro w hSw; obtain ⟨q1, q2⟩ := hSw; go_simp)⟩) hHeld ?_
        try simp only [List.getElem_toArray, List.getElem_cons_zero, List.getElem_cons_succ, Act.put, List.setIfInBounds_toArray, List.set_cons_zero, List.set_cons_succ]
        refine wpAnyH_take (i := 5) (v := (.int .i64 J)) rfl (by kernel_rfl) (by kernel_rfl) (by kernel_rfl) (fun _ _ _ h => h) (Or.inl ⟨by kernel_rfl, by (intro w hSw; obtain ⟨q1, q2⟩ := hSw; go_simp)⟩) hHeld ?_
        try simp only [List.getElem_toArray, List.getElem_cons_zero, List.getElem_cons_succ, Act.put, List.setIfInBounds_toArray, List.set_cons_zero, List.set_cons_succ]
        refine wpAnyH_take (i := 6) (v := (.pointer (some (ad.add J)))) rfl (by kernel_rfl) (by kernel_rfl) (by kernel_rfl) (fun _ _ _ h => h) (Or.inl ⟨by kernel_rfl, by (intro w hSw; obtain ⟨q1, q2⟩ := hSw; go_simp)⟩) hHeld ?_
        try simp only [List.getElem_toArray, List.getElem_cons_zero, List.getElem_cons_succ, Act.put, List.setIfInBounds_toArray, List.set_cons_zero, List.set_cons_succ]
        refine wpAnyH_take (i := 7) (v := (.slice Bp mp dp)) rfl (by kernel_rfl) (by kernel_rfl) (by kernel_rfl) (fun _ _ _ h => h) (Or.inl ⟨by kernel_rfl, by (intro w hSw; obtain ⟨q1, q2⟩ := hSw; go_simp)⟩) hHeld ?_
        try simp only [List.getElem_toArray, List.getElem_cons_zero, List.getElem_cons_succ, Act.put, List.setIfInBounds_toArray, List.set_cons_zero, List.set_cons_succ]
        refine wpAnyH_take (i := 8) (v := (.slice B mw dw)) rfl (by kernel_rfl) (by kernel_rfl) (by kernel_rfl) (fun _ _ _ h => h) (Or.inl ⟨by kernel_rfl, by (intro w hSw; obtain ⟨q1, q2⟩ := hSw; go_simp)⟩) hHeld ?_
        try simp only [List.getElem_toArray, List.getElem_cons_zero, List.getElem_cons_succ, Act.put, List.setIfInBounds_toArray, List.set_cons_zero, List.set_cons_succ]
        refine wpAnyH_ready (rs := [9]) (by kernel_rfl) (by simp) ?_
        refine AllReadyH.cons rfl (fun K hK => ?_) AllReadyH.nil
        refine step_callwT (by kernel_rfl) 31 #[.slice Bp mp dp, .slice B mw dw] rfl (by kernel_rfl) (fun v w' => v = .int .i64 (-1) ∧ w' = (wr.alloc (.cells #[.slice B mw dw] 23)).drew) (HCm.out.mono fun e w' ⟨h1, h2⟩ => ⟨_, h1, rfl, h2⟩) ?_
        rintro v w' ⟨rfl, rfl⟩
        refine hK.out _ _ HSS.out (fun hHeld2 => ?_)
        clear hK K hHeld
        try simp only [List.getElem_toArray, List.getElem_cons_zero, List.getElem_cons_succ, Act.put, List.setIfInBounds_toArray, List.set_cons_zero, List.set_cons_succ]
        refine wpAnyH_take (i := 10) (v := (.bool false)) rfl (by kernel_rfl) (by kernel_rfl) (by kernel_rfl) (fun _ _ _ h => h) (Or.inl ⟨by kernel_rfl, by (intro w hSw; obtain ⟨q1, q2⟩ := hSw; go_simp)⟩) hHeld2 ?_
        try simp only [List.getElem_toArray, List.getElem_cons_zero, List.getElem_cons_succ, Act.put, List.setIfInBounds_toArray, List.set_cons_zero, List.set_cons_succ]
        refine wpAnyH_take (i := 11) (v := (.bool false)) rfl (by kernel_rfl) (by kernel_rfl) (by kernel_rfl) (fun _ _ _ h => h) (Or.inl ⟨by rfl, by (intro w hSw; obtain ⟨q1, q2⟩ := hSw; go_simp)⟩) hHeld2 ?_
        try simp only [List.getElem_toArray, List.getElem_cons_zero, List.getElem_cons_succ, Act.put, List.setIfInBounds_toArray, List.set_cons_zero, List.set_cons_succ]
        refine wpAnyH_take (i := 12) (v := (.bool false)) rfl (by kernel_rfl) (by kernel_rfl) (by kernel_rfl) (fun _ _ _ h => h) (Or.inl ⟨by rfl, by (intro w hSw; obtain ⟨q1, q2⟩ := hSw; go_simp)⟩) hHeld2 ?_
        try simp only [List.getElem_toArray, List.getElem_cons_zero, List.getElem_cons_succ, Act.put, List.setIfInBounds_toArray, List.set_cons_zero, List.set_cons_succ]
        refine wpAnyH_take (i := 13) (v := (.pointer (some ⟨(ns []).a, 0, none⟩))) rfl (by kernel_rfl) (by kernel_rfl) (by kernel_rfl) (fun _ _ _ h => h) (Or.inl ⟨by kernel_rfl, by (intro w hSw; obtain ⟨q1, q2⟩ := hSw; go_simp)⟩) hHeld2 ?_
        try simp only [List.getElem_toArray, List.getElem_cons_zero, List.getElem_cons_succ, Act.put, List.setIfInBounds_toArray, List.set_cons_zero, List.set_cons_succ]
        refine wpAnyH_take (i := 14) (v := (.slice B mw dw)) rfl (by kernel_rfl) (by kernel_rfl) (by kernel_rfl) (fun _ _ _ h => h) (Or.inl ⟨by kernel_rfl, by (intro w hSw; obtain ⟨q1, q2⟩ := hSw; go_simp)⟩) hHeld2 ?_
        try simp only [List.getElem_toArray, List.getElem_cons_zero, List.getElem_cons_succ, Act.put, List.setIfInBounds_toArray, List.set_cons_zero, List.set_cons_succ]
        refine wpAnyH_ready (rs := [15]) (by kernel_rfl) (by simp) ?_
        refine AllReadyH.cons rfl (fun K hK => ?_) AllReadyH.nil
        refine step_callwT (by kernel_rfl) 30 #[.pointer (some ⟨(ns []).a, 0, none⟩), .slice B mw dw] rfl (by kernel_rfl) (fun v w' => v = .bool true ∧ w' = (wr.alloc (.cells #[.slice B mw dw] 23)).drew) (HHa.out.mono fun e w' ⟨h1, h2⟩ => ⟨_, h2, rfl, h1⟩) ?_
        rintro v w' ⟨rfl, rfl⟩
        refine hK.out _ _ HSS.out (fun hHeld3 => ?_)
        clear hK K hHeld2
        try simp only [List.getElem_toArray, List.getElem_cons_zero, List.getElem_cons_succ, Act.put, List.setIfInBounds_toArray, List.set_cons_zero, List.set_cons_succ]
        refine wpAnyH_take (i := 16) (v := (.bool false)) rfl (by kernel_rfl) (by kernel_rfl) (by kernel_rfl) (fun _ _ _ h => h) (Or.inl ⟨by kernel_rfl, by (intro w hSw; obtain ⟨q1, q2⟩ := hSw; go_simp)⟩) hHeld3 ?_
        try simp only [List.getElem_toArray, List.getElem_cons_zero, List.getElem_cons_succ, Act.put, List.setIfInBounds_toArray, List.set_cons_zero, List.set_cons_succ]
        refine wpAnyH_take (i := 17) (v := (.bool false)) rfl (by kernel_rfl) (by kernel_rfl) (by kernel_rfl) (fun _ _ _ h => h) (Or.inl ⟨by rfl, by (intro w hSw; obtain ⟨q1, q2⟩ := hSw; go_simp)⟩) hHeld3 ?_
        try simp only [List.getElem_toArray, List.getElem_cons_zero, List.getElem_cons_succ, Act.put, List.setIfInBounds_toArray, List.set_cons_zero, List.set_cons_succ]
        refine wpAnyH_take (i := 18) (v := (.bool false)) rfl (by kernel_rfl) (by kernel_rfl) (by kernel_rfl) (fun _ _ _ h => h) (Or.inl ⟨by rfl, by (intro w hSw; obtain ⟨q1, q2⟩ := hSw; go_simp)⟩) hHeld3 ?_
        try simp only [List.getElem_toArray, List.getElem_cons_zero, List.getElem_cons_succ, Act.put, List.setIfInBounds_toArray, List.set_cons_zero, List.set_cons_succ]
        refine wpAnyH_take (i := 19) (v := (.slice A n c)) rfl (by kernel_rfl) (by kernel_rfl) (by kernel_rfl) (fun _ _ _ h => h) (Or.inl ⟨by kernel_rfl, by (intro w hSw; obtain ⟨q1, q2⟩ := hSw; go_simp)⟩) hHeld3 ?_
        try simp only [List.getElem_toArray, List.getElem_cons_zero, List.getElem_cons_succ, Act.put, List.setIfInBounds_toArray, List.set_cons_zero, List.set_cons_succ]
        refine wpAnyH_take (i := 20) (v := (.func (.func 33) #[] #[.pointer (some ⟨wr.heap.size, 0, none⟩)])) rfl (by kernel_rfl) (by kernel_rfl) (by kernel_rfl) (fun _ _ _ h => h) (Or.inl ⟨by kernel_rfl, by (intro w hSw; obtain ⟨q1, q2⟩ := hSw; go_simp)⟩) hHeld3 ?_
        try simp only [List.getElem_toArray, List.getElem_cons_zero, List.getElem_cons_succ, Act.put, List.setIfInBounds_toArray, List.set_cons_zero, List.set_cons_succ]
        refine wpAnyH_ready (rs := [21]) (by kernel_rfl) (by simp) ?_
        refine AllReadyH.cons rfl (fun K hK => ?_) AllReadyH.nil
        refine step_callwT (by kernel_rfl) 32 #[.slice A n c, .func (.func 33) #[] #[.pointer (some ⟨wr.heap.size, 0, none⟩)]] rfl (by kernel_rfl) (fun v w' => v = .bool true ∧ Ext (wr.alloc (.cells #[.slice B mw dw] 23)).drew w') (HCo.out.mono fun e w' ⟨h1, h2⟩ => ⟨_, h1, rfl, h2⟩) ?_
        rintro v w10 ⟨rfl, hx10⟩
        refine hK.out _ _ ⟨hx10.cell HSS.out.1, hx10.cell HSS.out.2⟩ (fun hHeld4 => ?_)
        clear hK K hHeld3
        try simp only [List.getElem_toArray, List.getElem_cons_zero, List.getElem_cons_succ, Act.put, List.setIfInBounds_toArray, List.set_cons_zero, List.set_cons_succ]
        refine wpAnyH_take (i := 22) (v := (.bool false)) rfl (by kernel_rfl) (by kernel_rfl) (by kernel_rfl) (fun _ _ _ h => h) (Or.inl ⟨by kernel_rfl, by (intro w hSw; obtain ⟨q1, q2⟩ := hSw; go_simp)⟩) hHeld4 ?_
        try simp only [List.getElem_toArray, List.getElem_cons_zero, List.getElem_cons_succ, Act.put, List.setIfInBounds_toArray, List.set_cons_zero, List.set_cons_succ]
        refine wpAnyH_take (i := 23) (v := (.bool false)) rfl (by kernel_rfl) (by kernel_rfl) (by kernel_rfl) (fun _ _ _ h => h) (Or.inl ⟨by rfl, by (intro w hSw; obtain ⟨q1, q2⟩ := hSw; go_simp)⟩) hHeld4 ?_
        try simp only [List.getElem_toArray, List.getElem_cons_zero, List.getElem_cons_succ, Act.put, List.setIfInBounds_toArray, List.set_cons_zero, List.set_cons_succ]
        refine wpAnyH_done (by kernel_rfl) ?_ _
        unfold calmly
        go_wp2_with fail
        go_roundw
        case rel => exact ⟨j + 1, by omega, by go_num, (he.trans hxb).trans hx10⟩
        case measure => simp [intOf]; omega
    · have HX10 := Lib.hid (HX9.out.trans he)
      have HL10 := Lib.hid (HL9.out.ext he)
      have HT10 := Lib.hid (HT9.out.ext he)
      clear HT9 HL9 he
      generalize wr = w10 at *
      go_wp2_with fail
      clear hj hlt
      go_loopw [92] (fun i wr => ∃ j : Nat, j ≤ n ∧ i = .int .i64 j ∧ Ext w10 wr) (fun i _ => n - (intOf i).toNat)
      case atStart => exact ⟨0, by omega, rfl, Ext.refl _⟩
      case round =>
        obtain ⟨j, hj, rfl, he⟩ := hrel
        by_cases hlt : j < n
        · obtain ⟨ad, v, rfl, hc, B, mw, dw, rfl, hi, hBd, hm8⟩ := HL.out.at_ hlt
          have c1 := he.cell (HX10.out.cell hc)
          have HI := Lib.hid (hi.ext (HX10.out.trans he))
          have hAj := gL_mem (ls := ls) (j := j) (by rw [HLN.out]; exact hlt)
          have hbx := Blk.new wr 23 #[.slice B mw dw]
          have hxb : Ext wr (wr.alloc (.cells #[.slice B mw dw] 23)) := Ext.alloc wr _
          have cgx : (wr.alloc (.cells #[.slice B mw dw] 23)).cell? ⟨wr.heap.size, 0, none⟩ = some (.slice B mw dw) := by rw [hbx.cell 0]; rfl
          have HCo := Lib.hid (containsL_ok (g := wr.heap.size) (x := gL ls j) (HL10.out.ext (he.trans hxb)) (enters_of Try.func34 (by kernel_rfl) rfl) (fun W A n c l hW hi => same2_ok hi ((HI.out.ext hxb).ext hW) (hW.cell cgx)) ((HAM.out _).2 ((HSM.out _).2 hAj)))
          clear hc hi hAj hbx cgx
          go_wp2_with fail
          refine HCo.out.mono ?_
          rintro e w11 ⟨rfl, he11⟩
          clear HCo
          go_wp2_with fail
          go_roundw
          case rel => exact ⟨j + 1, by omega, by go_num, he.trans (hxb.trans he11)⟩
          case measure => simp [intOf]; omega
        · have HX20 := Lib.hid (HX10.out.trans he)
          have HL20 := Lib.hid (HL10.out.ext he)
          have HT20 := Lib.hid (HT10.out.ext he)
          clear HT10 HL10 he HX10
          generalize wr = w20 at *
          obtain ⟨w21, hw21⟩ : ∃ w21, w21 = w20.alloc (.cells #[.slice none 0 0] 22) := ⟨_, rfl⟩
          have hx21 : Ext w20 w21 := by rw [hw21]; exact Ext.alloc _ _
          have hg21 : Blk w21 w20.heap.size 22 #[.slice none 0 0] := by rw [hw21]; exact Blk.new _ _ _
          have hWd := words_ok ns Q m d w21
          unfold TrN.ptr at hWd
          have hs21 : w21.heap.size = w20.heap.size + 1 := by rw [hw21]; simp
          have hw21s := hw21
          have HW21 := Lib.hid hw21s
          clear hw21s hs21
          go_wp2_with fail
          clear hj hlt
          rw [← HW21.out]
          refine hWd.mono ?_
          rintro e w22 ⟨hw2, rfl⟩
          have hx22 : Ext w21 w22 := by rw [hw2]; exact (Ext.alloc _ _).to_alloc _
          have cb1 : w22.cell? ⟨w21.heap.size, 0, none⟩ = some (.pointer (some ⟨(ns []).a, 0, none⟩)) := by
            rw [hw2]
            have := Blk.ext (Blk.new w21 58 #[.pointer (some ⟨(ns []).a, 0, none⟩)]) (Ext.alloc _ (.cells #[.slice Q m d] 23))
            rw [this.cell 0]; rfl
          have cb2 : w22.cell? ⟨w21.heap.size + 1, 0, none⟩ = some (.slice Q m d) := by
            rw [hw2]
            have := Blk.new (w21.alloc (.cells #[.pointer (some ⟨(ns []).a, 0, none⟩)] 58)) 23 #[.slice Q m d]
            have h2 : Blk ((w21.alloc (.cells #[.pointer (some ⟨(ns []).a, 0, none⟩)] 58)).alloc (.cells #[.slice Q m d] 23)) (w21.heap.size + 1) 23 #[.slice Q m d] := by simpa using this
            rw [h2.cell 0]; rfl
          have hx2022 := hx21.trans hx22
          have hgc := hg21.ext hx22
          have HX2022 := Lib.hid hx2022
          have HT22 := Lib.hid (HT20.out.ext hx2022)
          have hgl := hgc.lt
          obtain ⟨BL, hBL⟩ : ∃ BL, eachF S (kidsS S) 25 q = BL := ⟨_, rfl⟩
          have HBL := Lib.hid hBL
          have HBF : Hid (BL = AL.filter fun x => decide (q <+: x)) := Lib.hid (by rw [← hBL, HAL.out]; exact each_filter (kidsS_ok S) hS24.out (by omega))
          have HBc : Hid (BL.length = cntF S q) := Lib.hid (by rw [← hBL]; exact each_len (kidsS_ok S) hS24.out hSN.out (by omega))
          have hBl : BL.length ≤ 1000 := by rw [← hBL]; exact len_each hS24.out hSN.out hSL.out q
          have HINF := Lib.hid (info_parts info_slT)
          clear hWd hw2 hw21 hx21 hx22 hg21 hx2022 hBL
          go_wp2_with fail
          refine wp_wordsF (w0 := w20) (S := S) (b0 := b0) (K := K) (b1 := w21.heap.size) (b2 := w21.heap.size + 1) (g := w20.heap.size) (ns := ns) (A := Q) (n := m) (c := d) (q := q) (all := BL) rfl rfl hS24.out hSW.out (by omega) HT22.out (HQ.out.ext HX20.out) HQ0.out (by omega) HWQ.out HX2022.out (Nat.le_refl _) cb1 cb2 hgc HBL.out
            (fun t v => (t.setIfInBounds 104 v).setIfInBounds 13 v) ?assign ?body ?done
          case assign =>
            intro l v W Kk hK
            gi_wp2
            exact hK
          case body =>
            intro l pre x B mx dx W hgot hO hB hm hnm hkp hsW hpre
            obtain ⟨i0, hi, hz0, hz1, hz2⟩ := HINF.out
            have HI0 := Lib.hid hi
            obtain ⟨A3, k3, c3, hb3, xs, hL1, hL2, hL3⟩ := hgot
            have hk3 : k3 = pre.length := by have h1 := Own.len hL1; have h2 := hL2.1; omega
            have hkl : k3 + 1 ≤ 1000 := by have := pre_lenT hpre; omega
            have cg : W.cell? ⟨w20.heap.size, 0, none⟩ = some (.slice A3 k3 c3) := by rw [hb3.cell 0]; rfl
            have hfz := hb3.frozen 0
            have HB3 := Lib.hid hb3
            have HL2 := Lib.hid hL2
            have HO := Lib.hid hO
            have HNM := Lib.hid hnm
            have hown := Own.ext hL1 (Ext.alloc W (.cells #[.slice B mx dx] 23))
            have HL1 := Lib.hid hL1
            have HBn := Lib.hid hB
            clear hb3 hL2 hO hnm hL1 hB hpre hkp hk3 hi
            gi_wp2_with ((gi_at_builtin; refine (fun (h : True → _) => h trivial) ?_))
            intro _
            refine wpListIn_append_own_at _ rfl (.tmp 105) (.tmp 107) 22 rfl (w22.heap.size + 2) 23 i0 (.slice none 0 0) 1 24 Try.underlying22 HI0.out hz0 hz1 hz2 rfl (by decide) _ _ _ rfl hown ⟨W.heap.size, 0, none⟩ 1 1 [.slice B mx dx] rfl rfl (cell_one_new _ _ _) (by simp [Value.oneCell']) (by unfold maxLen; omega) (by omega) (by simp; omega) ?_
            intro v' W2 k1 k2 _ k3'
            obtain ⟨g', cap', rfl⟩ := ownsRow_succ k1
            have hgp := got_push HB3.out HL1.out HL2.out HO.out HBn.out hm HNM.out (by omega) k1 k2 k3'
            have hb2 := (HB3.out.ext (Ext.alloc W (.cells #[.slice B mx dx] 23))).grown k2 (fun e2 => by have := (Own.blk HL1.out _ e2.symm).1; omega)
            have cg2 : W2.cell? ⟨w20.heap.size, 0, none⟩ = some (.slice A3 k3 c3) := by rw [hb2.cell 0]; rfl
            have fg2 := hb2.frozen 0
            have HGP := Lib.hid hgp
            clear k1 k2 k3' hgp hb2 cg hfz hown
            gi_wp2
            exact HGP.out
          case done =>
            intro W hgot hkp hD
            obtain ⟨B3, k3, d3, hb3, hL3⟩ := hgot
            have cg : W.cell? ⟨w20.heap.size, 0, none⟩ = some (.slice B3 k3 d3) := by rw [hb3.cell 0]; rfl
            have hE : Ext w20 W := kp_ext (base := w22.heap.size + 2) HX2022.out (Nat.le_refl _) ⟨none, 0, 0, hgc, LnsO.nil _ _⟩ (by have := HX2022.out.hsize; omega) hkp
            have HE := Lib.hid hE
            have HB3 := Lib.hid hL3.lns
            have HK3 : Hid (BL.length = k3) := Lib.hid hL3.lns.len
            have hk3c := hL3.lns.ncap
            have hk3m := hL3.lns.nmax
            have HCG := Lib.hid cg
            have HD := Lib.hid hD
            have HC := Lib.hid (tcount_ok (HT20.out.ext hE) (HQ.out.ext (HX20.out.trans hE)) HWQ.out)
            have HLW := Lib.hid (HL20.out.ext hE)
            have hbw := HX2022.out.hsize
            unfold maxLen at hk3m
            clear hkp hb3 hL3 hE cg hD cb1 cb2 hgc HX2022 HT22 HINF HW21
            go_wp2_with fail
            go_loopw [111, 14] (fun i nn wr => ∃ j : Nat, j ≤ k9 ∧ i = .int .i64 j ∧ nn = .int .i64 (((AL.take j).filter fun x => decide (q <+: x)).length : Nat) ∧ Ext W wr) (fun i _ _ => k9 - (intOf i).toNat)
            case atStart => exact ⟨0, by omega, rfl, rfl, Ext.refl _⟩
            case round =>
              obtain ⟨j, hj, rfl, rfl, he⟩ := hrel
              have cgr := he.cell HCG.out
              by_cases hlt : j < k9
              · obtain ⟨ad, v, rfl, hc, B, mw, dw, rfl, hi, hBd, hm8⟩ := HLW.out.at_ hlt
                have c1 := he.cell hc
                have hI := hi.ext he
                have hmy := hi.len
                have hmw := hi.ncap
                have hmc := hi.nmax
                have hjl : j < AL.length := by rw [HALn.out]; exact hlt
                have hst := filter_step (p := fun x => decide (q <+: x)) hjl
                have HST := Lib.hid hst
                have HIy := Lib.hid hI
                obtain ⟨N, hN⟩ : ∃ N, N = ((AL.take j).filter fun x => decide (q <+: x)).length := ⟨_, rfl⟩
                rw [← hN] at HST ⊢
                unfold maxLen at hmc
                have HN := Lib.hid hN
                have hN100 : N ≤ j := by rw [hN]; exact Nat.le_trans (List.length_filter_le _ _) (by simp; omega)
                clear hc hi hI hst hN
                by_cases hmm : m ≤ mw
                · have hEq := equal_ext (HIy.out.front hmm) (HQ.out.ext ((HX20.out.trans HE.out).trans he))
                  have htp := take_pre (q := q) (y := gL AL j) (by rw [hmy, HQN.out]; exact hmm)
                  rw [HQN.out] at htp
                  rw [htp] at hEq
                  by_cases hp : q <+: gL AL j
                  · have e1 : decide (q <+: gL AL j) = true := by simp [hp]
                    rw [e1] at hEq
                    obtain ⟨hf1, hf2⟩ := filter_at (p := fun x => decide (q <+: x)) hjl e1
                    rw [← HN.out, ← HBF.out] at hf1 hf2
                    rw [HK3.out] at hf2
                    obtain ⟨ad3, v3, rfl, hc3, C, mc, dc, rfl, hi3, _, _⟩ := HB3.out.at_ hf2
                    rw [hf1] at hi3
                    have HI3 := Lib.hid hi3
                    have cg3 := he.cell hc3
                    have HS1 : Hid (((AL.take (j + 1)).filter fun x => decide (q <+: x)).length = N + 1) := Lib.hid (by rw [HST.out]; simp [hp])
                    clear e1 htp hp hf1 hc3 hi3
                    go_wp2_with fail
                    refine hEq.mono ?_
                    rintro e w30 ⟨rfl, he30⟩
                    have cgr2 := he30.cell cgr
                    have cg32 := he30.cell cg3
                    have hEq2 := equal_ext (HI3.out.ext (he.trans he30)) (HIy.out.ext he30)
                    rw [eqB_true.2 rfl] at hEq2
                    clear hEq cgr cg3
                    go_wp2_with fail
                    refine hEq2.mono ?_
                    rintro e w31 ⟨rfl, he31⟩
                    clear hEq2 cgr2 cg32
                    go_wp2_with fail
                    go_roundw
                    case rel => exact ⟨j + 1, by omega, by go_num, by rw [HS1.out]; go_num, he.trans (he30.trans he31)⟩
                    case measure => simp [intOf]; omega
                  · have e1 : decide (q <+: gL AL j) = false := by simp [hp]
                    rw [e1] at hEq
                    have HS1 : Hid (((AL.take (j + 1)).filter fun x => decide (q <+: x)).length = N) := Lib.hid (by rw [HST.out]; simp [hp])
                    clear e1 htp hp
                    go_wp2_with fail
                    refine hEq.mono ?_
                    rintro e w30 ⟨rfl, he30⟩
                    clear hEq cgr
                    go_wp2_with fail
                    go_roundw
                    case rel => exact ⟨j + 1, by omega, by go_num, by rw [HS1.out], he.trans he30⟩
                    case measure => simp [intOf]; omega
                · have hp : ¬ q <+: gL AL j := fun h => by have := h.length_le; rw [hmy, HQN.out] at this; omega
                  have HS1 : Hid (((AL.take (j + 1)).filter fun x => decide (q <+: x)).length = N) := Lib.hid (by rw [HST.out]; simp [hp])
                  clear hp cgr
                  go_wp2_with fail
                  go_roundw
                  case rel => exact ⟨j + 1, by omega, by go_num, by rw [HS1.out], he⟩
                  case measure => simp [intOf]; omega
              · have hjk : j = k9 := by omega
                have hNk : ((AL.take j).filter fun x => decide (q <+: x)).length = k3 := by
                  rw [List.take_of_length_le (by rw [HALn.out]; omega), ← HBF.out, HK3.out]
                rw [hNk]
                have hC := tcount_ok ((HT20.out.ext HE.out).ext he) ((HQ.out.ext (HX20.out.trans HE.out)).ext he) HWQ.out
                rw [cnt_atF, ← HBc.out, HK3.out] at hC
                unfold TrN.ptr at hC
                have hDr : wr.heap[w22.heap.size]? = some (.deferred (some [])) := (Below.block he _ (Array.getElem?_eq_some_iff.1 HD.out).1).trans HD.out
                have HDr := Lib.hid hDr
                have HER := Lib.hid ((HX20.out.trans HE.out).trans he)
                clear hNk hDr he
                go_wp2_with fail
                refine hC.mono ?_
                rintro e wr ⟨rfl, rfl⟩
                clear hC
                go_wp2_with fail
                have hwz : w.heap.size ≤ w22.heap.size := by have := HX20.out.hsize; omega
                refine leaves_mark HDr.out ⟨.bool true, ?_, rfl, ?_⟩
                · simp [results, Try.results8, go_sem]
                  try rfl
                · exact Below.grown HER.out (putObj_grown wr _ _) HER.out.hsize (fun k e => by injection e with e; omega)
end Go.Proofs.Ytdkjkcegchohfaa
