/-
  The walk of TrieMore.
-/
import Derived.Test.YtdkjkcegchohfaaTriR
namespace Go.Proofs.Ytdkjkcegchohfaa
open Go.RowKit
set_option linter.unusedVariables false
set_option linter.unusedSimpArgs false
attribute [local go_sem] Oper.semAt_some

theorem FS_wf {S : List (List Int)} (hw : ∀ x ∈ S, ∀ y ∈ x, (Lit.int .i64 y).wf = true) {r : List Int} (h : (FS S r).isSome = true) : ∀ y ∈ r, (Lit.int .i64 y).wf = true := fun y hy => by
  unfold FS at h
  split at h
  · rename_i h'
    rcases h' with rfl | ⟨z, hz, hp⟩
    · simp at hy
    · exact hw z hz y (hp.subset hy)
  · cases h

set_option maxRecDepth 20000 in
set_option maxHeartbeats 4000000 in
theorem trieMore_walk {A Q : Option Addr} {n c m d : Nat} {ls : List (List Int)} {q : List Int} {w : World} (hl : Lns w A n c ls) (hwf : WfL ls) (hq : Ints w Q m d q) (hQ : Q = none → d = 0) (hq8 : m * 8 ≤ 140737488351232) (hwq : ∀ y ∈ q, (Lit.int .i64 y).wf = true) :
    Calls Try.prog 7 #[.slice A n c, .slice Q m d] w fun e w' => e = .returned (.bool true) ∧ Ext w w' := by
  have HL := Lib.hid hl
  have HQ := Lib.hid hq
  have HWF := Lib.hid hwf
  have HWQ := Lib.hid hwq
  have HQ0 := Lib.hid hQ
  have hmq := Nat.le_trans hq.ncap hq.nmax
  unfold maxLen at hmq
  clear hl hq hwf hwq hQ
  go_enter Try.func7, Try.ntmps7
  go_wp2_with fail
  refine (of_ok _ _ (by decide)).mono ?_
  rintro e w1 ⟨A1, c1, rfl, ho1, he1⟩
  go_wp2_with fail
  refine (of_ok _ _ (by decide)).mono ?_
  rintro e w2 ⟨A2, c2, rfl, ho2, he2⟩
  have eA := Ext.alloc w2 (.cells #[.slice A1 3 c1, .slice A2 3 c2] 23)
  have hlit := Lns.lit (W := w2) (vs := [.slice A1 3 c1, .slice A2 3 c2]) (n := 2) (((LnV.nil _).more ((ho1.reg (by decide)).to (he2.trans eA))).more ((ho2.reg (by decide)).to eA)) rfl (by decide)
  have hnw := tnew_ok hlit wf_abc
  rw [show ([] ++ [chars ⟨#[97, 98, 99]⟩] ++ [chars ⟨#[97, 98, 100]⟩] : List (List Int)) = [chars ⟨#[97, 98, 99]⟩, chars ⟨#[97, 98, 100]⟩] from rfl, dist_abc] at hnw
  go_wp2_with fail
  refine hnw.mono ?_
  rintro e w3 ⟨he3, ⟨hb, _⟩ | ⟨_, b0, K, ns, hb0, hK, hT, rfl⟩⟩
  · exact absurd good_abc hb
  have hx3 : Ext w w3 := he1.trans (he2.trans (eA.trans he3))
  have hS0 : ∀ x ∈ ([[97, 98, 100], [97, 98, 99]] : List (List Int)), x.length ≤ 24 := by decide
  have hW0 : ∀ x ∈ ([[97, 98, 100], [97, 98, 99]] : List (List Int)), ∀ y ∈ x, (Lit.int .i64 y).wf = true := fun x hx => by
    simp only [List.mem_cons, List.not_mem_nil, or_false] at hx
    rcases hx with rfl | rfl
    · exact wf_small (by simp)
    · exact wf_small (by simp)
  unfold TrN.ptr
  have HT := Lib.hid hT
  have HX3 := Lib.hid hx3
  clear eA he1 he2 he3 hlit hnw ho1 ho2 hT hx3
  go_wp2_with fail
  refine (of_ok _ _ (by decide)).mono ?_
  rintro e w4 ⟨A4, c4, rfl, ho4, he4⟩
  rw [ch_a] at ho4
  have hM := tmore_ok hS0 hW0 (HT.out.ext he4) ho4.ints (wf_small (by simp))
  unfold TrN.ptr at hM
  have HX4 := Lib.hid (HX3.out.trans he4)
  clear he4 ho4
  go_wp2_with fail
  refine hM.mono ?_
  rintro e w5 ⟨he5, ⟨h0, _⟩ | ⟨_, B5, m5, d5, rfl, x5, hO5, h1, h2, h3⟩⟩
  · exact absurd h0 (by decide)
  obtain rfl := more_abc h3 h1 h2
  have HO5 := Lib.hid hO5
  have HX5 := Lib.hid (HX4.out.trans he5)
  clear hM h1 h2 h3 hO5 he5 hS0 hW0
  go_wp2_with fail
  refine (of_ok _ _ (by decide)).mono ?_
  rintro e w6 ⟨A6, c6, rfl, ho6, he6⟩
  rw [ch_b] at ho6
  have hEq := equal_ext (HO5.out.ints.ext he6) ho6.ints
  rw [eqB_true.2 rfl] at hEq
  have HX6 := Lib.hid (HX5.out.trans he6)
  clear he6 ho6 HT HO5
  go_wp2_with fail
  refine hEq.mono ?_
  rintro e w7 ⟨rfl, he7⟩
  have HX7 := Lib.hid (HX6.out.trans he7)
  have hnw := tnew_ok (HL.out.ext HX7.out) HWF.out
  clear hEq he7
  go_wp2_with fail
  refine hnw.mono ?_
  rintro e w8 ⟨he8, ⟨hb, rfl⟩ | ⟨hgood, b0, K, ns, hb0, hK, hT, rfl⟩⟩
  · have HX8 := Lib.hid (HX7.out.trans he8)
    clear hnw he8 hb
    go_wp2_with fail
    go_ret
    exact ⟨rfl, HX8.out⟩
  obtain ⟨S, hSd⟩ : ∃ S, S = distinct ls := ⟨_, rfl⟩
  rw [← hSd] at hT
  have hS24 := Lib.hid (hSd ▸ good_dist hgood)
  have hSW := Lib.hid (hSd ▸ wf_dist HWF.out)
  have hSN : Hid S.Nodup := Lib.hid (hSd ▸ nodup_distinct ls)
  have hSL : Hid (S.length ≤ 100) := Lib.hid (by rw [hSd]; exact Nat.le_trans (len_distinct ls) hgood.1)
  have HX8 := Lib.hid (HX7.out.trans he8)
  have HT := Lib.hid hT
  unfold TrN.ptr
  have hM := tmore_ok hS24.out hSW.out HT.out (HQ.out.ext HX8.out) HWQ.out
  unfold TrN.ptr at hM
  clear hnw he8 hgood hT hSd
  go_wp2_with fail
  refine hM.mono ?_
  rintro e w9 ⟨he9, ⟨h0, rfl⟩ | ⟨hne, B9, m9, d9, rfl, x, hO9, h1, h2, h3⟩⟩
  · have HX9 := Lib.hid (HX8.out.trans he9)
    have hc := tcount_ok (HT.out.ext he9) (HQ.out.ext HX9.out) HWQ.out
    rw [cnt_atF, h0] at hc
    unfold TrN.ptr at hc
    clear hM h0 he9
    go_wp2_with fail
    refine hc.mono ?_
    rintro e w9 ⟨rfl, rfl⟩
    clear hc
    go_wp2_with fail
    go_ret
    exact ⟨rfl, HX9.out⟩
  have HX9 := Lib.hid (HX8.out.trans he9)
  have HT9 := Lib.hid (HT.out.ext he9)
  have hqx := FS_len hS24.out h3
  rw [List.length_append] at hqx
  have hmq2 := HQ.out.len
  have hm9 := hO9.ints.len
  have HO9 := Lib.hid hO9
  have H1 := Lib.hid h1
  have H2 := Lib.hid h2
  have H3 := Lib.hid h3
  have HNE := Lib.hid hne
  have hcat := concat_big (Rd.litAt w9 23 [.slice Q m d, .slice B9 m9 d9] rfl rfl (show 2 ≤ 1000 by omega)) (ListsN.two ((HQ.out.ext HX9.out).ext (Ext.alloc w9 _)) HQ0.out (hO9.ints.ext (Ext.alloc w9 _)) (own_nocap hO9)) rfl (by simp; omega)
  have hfl : ([q, x] : List (List Int)).flatten = q ++ x := by simp
  rw [hfl] at hcat
  clear hM he9 h1 h2 h3 hO9 hne hfl
  go_wp2_with fail
  refine hcat.mono ?_
  rintro e w10 ⟨B10, m10, d10, rfl, hO10, he10⟩
  have hx910 := (Ext.alloc w9 (.cells #[.slice Q m d, .slice B9 m9 d9] 23)).trans he10
  have HX10 := Lib.hid (HX9.out.trans hx910)
  have HT10 := Lib.hid (HT9.out.ext hx910)
  have hm10 := hO10.ints.len
  rw [List.length_append] at hm10
  have hwqx : ∀ y ∈ q ++ x, (Lit.int .i64 y).wf = true := FS_wf hSW.out H3.out
  have hc1 := tcount_ok HT10.out hO10.ints hwqx
  rw [cnt_atF, H1.out] at hc1
  have hc2 := tcount_ok HT10.out (HQ.out.ext HX10.out) HWQ.out
  rw [cnt_atF] at hc2
  unfold TrN.ptr at hc1 hc2
  have hLs := tlist_ok (most := 1048576) (by decide) hS24.out hSW.out (by omega) HT10.out (HQ.out.ext HX10.out) HQ0.out (by omega) HWQ.out (len_each hS24.out hSN.out hSL.out q)
  unfold TrN.ptr at hLs
  obtain ⟨N, hN⟩ : ∃ N, N = cntF S q := ⟨_, rfl⟩
  rw [← hN] at hc1 hc2
  have hN0 : ¬ N = 0 := by rw [hN]; exact HNE.out
  have hNi : ((N : Int) == 0) = false := by simp; omega
  have HN := Lib.hid hN
  have HC1 := Lib.hid hc1
  have HC2 := Lib.hid hc2
  have HLS := Lib.hid hLs
  clear hcat he10 hx910 hO10 hwqx hc1 hc2 hLs hN
  go_wp2_with fail
  refine HC1.out.mono ?_
  rintro e w10 ⟨rfl, rfl⟩
  go_wp2_with fail
  refine HC2.out.mono ?_
  rintro e w10 ⟨rfl, rfl⟩
  go_wp2_with fail
  refine HC2.out.mono ?_
  rintro e w10 ⟨rfl, rfl⟩
  go_wp2_with fail
  refine HLS.out.mono ?_
  rintro e w11 ⟨B11, k11, d11, rfl, hL11, he11⟩
  have HL11 := Lib.hid hL11.lns
  have HX11 := Lib.hid (HX10.out.trans he11)
  have HT11 := Lib.hid (HT10.out.ext he11)
  have hk11 := hL11.lns.ncap
  have hk11m := hL11.lns.nmax
  unfold maxLen at hk11m
  have HK11 : Hid (∀ j, j < k11 → gL (eachF S (kidsS S) 25 q) j ∈ S ∧ q <+: gL (eachF S (kidsS S) 25 q) j) := Lib.hid (fun j hj => by
    have hlen := HL11.out.len
    refine (mem_each (kidsS_ok S) hS24.out 25 q (by omega) _).1 ?_
    unfold gL
    rw [List.getElem?_eq_getElem (by omega)]
    exact List.getElem_mem _)
  clear HLS hL11 he11 hN0 hNi
  go_wp2_with fail
  go_loopw [86] (fun i wr => ∃ j : Nat, j ≤ k11 ∧ i = .int .i64 j ∧ wr = w11) (fun i _ => k11 - (intOf i).toNat)
  case atStart => exact ⟨0, by omega, rfl, rfl⟩
  case round =>
    obtain ⟨j, hj, rfl, rfl⟩ := hrel
    by_cases hlt : j < k11
    · obtain ⟨ad, v, rfl, hc, B, m', d', rfl, hi, hBd, hm8⟩ := HL11.out.at_ hlt
      obtain ⟨hyS, hyq⟩ := HK11.out j hlt
      have hmy := hi.len
      have hmc := hi.ncap
      have hmm := hi.nmax
      unfold maxLen at hmm
      by_cases hgt : m10 < m'
      · have hcy := tcount_ok HT11.out (hi.front (k := m10 + 1) (by omega)) (fun y hy => hSW.out _ hyS y (List.mem_of_mem_take hy))
        rw [cnt_atF] at hcy
        have hne2 := ends_count H2.out hyS (more_pre H1.out hyS hyq) (by rw [List.length_append]; omega)
        rw [H1.out, List.length_append, show q.length + x.length + 1 = m10 + 1 by omega, ← HN.out] at hne2
        have hc3 := tcount_ok HT11.out (HQ.out.ext HX11.out) HWQ.out
        rw [cnt_atF, ← HN.out] at hc3
        unfold TrN.ptr at hcy hc3
        obtain ⟨Y, hY⟩ : ∃ Y, Y = cntF S ((gL (eachF S (kidsS S) 25 q) j).take (m10 + 1)) := ⟨_, rfl⟩
        rw [← hY] at hcy hne2
        have hYN : ((Y : Int) == (N : Int)) = false := by simp; omega
        clear hi hyS hyq hY hne2
        go_wp2_with fail
        refine hcy.mono ?_
        rintro e w11 ⟨rfl, rfl⟩
        clear hcy
        go_wp2_with fail
        refine hc3.mono ?_
        rintro e w11 ⟨rfl, rfl⟩
        clear hc3
        go_wp2_with fail
        go_roundw
        case rel => exact ⟨j + 1, by omega, by go_num, by trivial⟩
        case measure => simp [intOf]; omega
      · clear hi hyS hyq
        go_wp2_with fail
        go_roundw
        case rel => exact ⟨j + 1, by omega, by go_num, by trivial⟩
        case measure => simp [intOf]; omega
    · obtain rfl : j = k11 := by omega
      go_wp2_with fail
      go_ret
      exact ⟨rfl, HX11.out⟩
end Go.Proofs.Ytdkjkcegchohfaa
