/-
  The walk of AbbrHits.
-/
import Derived.Test.YtdkjkcegchohfaaAbX
import Derived.Test.YtdkjkcegchohfaaCut
import Derived.Test.YtdkjkcegchohfaaEq
namespace Go.Proofs.Ytdkjkcegchohfaa
open Go.RowKit Go.Maps
set_option linter.unusedVariables false
set_option linter.unusedSimpArgs false
attribute [local go_sem] Oper.semAt_some

def wsA : List (List Int) := [chars ⟨#[104, 101]⟩, chars ⟨#[115, 104, 101]⟩, chars ⟨#[101]⟩]
theorem good_wsA : GoodA wsA := ⟨by decide, fun i hi => by
  have : i = 0 ∨ i = 1 ∨ i = 2 := by simp [wsA] at hi; omega
  rcases this with rfl | rfl | rfl <;> decide⟩
theorem wf_chars (s : ByteArray) : ∀ y ∈ chars s, (Lit.int .i64 y).wf = true := fun y hy => by
  unfold chars at hy
  simp at hy
  obtain ⟨b, _, rfl⟩ := hy
  have := b.toNat_lt
  exact wf_i64' (by omega) (by omega)
theorem wf_wsA : WfA wsA := fun i hi => by
  have : i = 0 ∨ i = 1 ∨ i = 2 := by simp [wsA] at hi; omega
  rcases this with rfl | rfl | rfl <;> exact wf_chars _
theorem hits_wsA {t : AC} {fall : Nat → Nat} (h : t.Ok wsA) (hf : ∀ i, i < t.N → i ≠ 0 → FallAt t fall i) : hitP t fall (chars ⟨#[115, 104, 101]⟩) 3 = [(1, 3), (0, 3), (2, 3)] := by
  have key : ∀ (u : List Int) (L : List Nat), (∀ k, k ∈ L ↔ k < wsA.length ∧ gL wsA k <:+ u) → L.Pairwise (fun a b => (gL wsA b).length < (gL wsA a).length ∨ ((gL wsA a).length = (gL wsA b).length ∧ a < b)) → chA t fall (stA t u) = L := fun u L h1 h2 => by
    obtain ⟨h3, h4⟩ := chA_at h hf good_wsA u
    refine pw_unique (fun a b hab hba => ?_) h4 h2 (fun k => (h3 k).trans (h1 k).symm)
    omega
  have hk : ∀ (k : Nat) (P : Nat → Prop), (k < wsA.length ∧ P k) ↔ (k = 0 ∧ P 0) ∨ (k = 1 ∧ P 1) ∨ (k = 2 ∧ P 2) := fun k P => by
    constructor
    · rintro ⟨a, b⟩
      have : k = 0 ∨ k = 1 ∨ k = 2 := by simp [wsA] at a; omega
      rcases this with rfl | rfl | rfl
      · exact .inl ⟨rfl, b⟩
      · exact .inr (.inl ⟨rfl, b⟩)
      · exact .inr (.inr ⟨rfl, b⟩)
    · rintro (⟨rfl, b⟩ | ⟨rfl, b⟩ | ⟨rfl, b⟩)
      · exact ⟨by decide, b⟩
      · exact ⟨by decide, b⟩
      · exact ⟨by decide, b⟩
  have e1 := key [115] [] (fun k => by
    rw [hk k (fun k => gL wsA k <:+ [115])]
    have a0 : ¬ gL wsA 0 <:+ [115] := by decide
    have a1 : ¬ gL wsA 1 <:+ [115] := by decide
    have a2 : ¬ gL wsA 2 <:+ [115] := by decide
    simp [a0, a1, a2]) .nil
  have e2 := key [115, 104] [] (fun k => by
    rw [hk k (fun k => gL wsA k <:+ [115, 104])]
    have a0 : ¬ gL wsA 0 <:+ [115, 104] := by decide
    have a1 : ¬ gL wsA 1 <:+ [115, 104] := by decide
    have a2 : ¬ gL wsA 2 <:+ [115, 104] := by decide
    simp [a0, a1, a2]) .nil
  have e3 := key [115, 104, 101] [1, 0, 2] (fun k => by
    rw [hk k (fun k => gL wsA k <:+ [115, 104, 101])]
    have a0 : gL wsA 0 <:+ [115, 104, 101] := by decide
    have a1 : gL wsA 1 <:+ [115, 104, 101] := by decide
    have a2 : gL wsA 2 <:+ [115, 104, 101] := by decide
    simp [a0, a1, a2]
    omega) (by decide)
  have hc : chars ⟨#[115, 104, 101]⟩ = [115, 104, 101] := by decide
  rw [hc]
  simp only [hitP, List.take_succ_cons, List.take_zero, List.nil_append]
  rw [e1, e2, e3]
  rfl

set_option maxRecDepth 20000 in
set_option maxHeartbeats 4000000 in
theorem abbrHits_walk {A Q : Option Addr} {n c m d : Nat} {ls : List (List Int)} {q : List Int} {w : World} (hl : Lns w A n c ls) (hwf : WfA ls) (hq : Ints w Q m d q) (hwq : ∀ y ∈ q, (Lit.int .i64 y).wf = true) :
    Calls Try.prog 3 #[.slice A n c, .slice Q m d] w fun e w' => e = .returned (.bool true) ∧ Ext w w' := by
  have HL := Lib.hid hl
  have HQ := Lib.hid hq
  have HWF := Lib.hid hwf
  have HWQ := Lib.hid hwq
  have HLN := Lib.hid hl.len
  have HQL := Lib.hid hq.len
  have hnc := hl.ncap
  have hcm := hl.nmax
  have hmd := hq.ncap
  have hdm := hq.nmax
  unfold maxLen at hcm hdm
  clear hl hq hwf hwq
  go_enter Try.func3, Try.ntmps3
  go_wp2_with fail
  refine (of_ok _ _ (by decide)).mono ?_
  rintro e w1 ⟨A1, c1, rfl, ho1, he1⟩
  go_wp2_with fail
  refine (of_ok _ _ (by decide)).mono ?_
  rintro e w2 ⟨A2, c2, rfl, ho2, he2⟩
  go_wp2_with fail
  refine (of_ok _ _ (by decide)).mono ?_
  rintro e w3 ⟨A3, c3, rfl, ho3, he3⟩
  have eA := Ext.alloc w3 (.cells #[.slice A1 2 c1, .slice A2 3 c2, .slice A3 1 c3] 23)
  have hlit := Lns.lit (W := w3) (vs := [.slice A1 2 c1, .slice A2 3 c2, .slice A3 1 c3]) (n := 3) ((((LnV.nil _).more ((ho1.reg (by decide)).to (he2.trans (he3.trans eA)))).more ((ho2.reg (by decide)).to (he3.trans eA))).more ((ho3.reg (by decide)).to eA)) rfl (by decide)
  have hnw := Lib.hid (abNew_ok (ls := wsA) hlit wf_wsA)
  have HX3 := Lib.hid (he1.trans (he2.trans (he3.trans eA)))
  clear eA he1 he2 he3 hlit ho1 ho2 ho3
  go_wp2_with fail
  refine hnw.out.mono ?_
  rintro e w4 ⟨he4, ⟨hb, _⟩ | ⟨_, t, x, hD, rfl⟩⟩
  · exact absurd good_wsA hb
  have HD := Lib.hid hD
  have HX4 := Lib.hid (HX3.out.trans he4)
  clear hD he4 hnw
  go_wp2_with fail
  refine (of_ok _ _ (by decide)).mono ?_
  rintro e w5 ⟨A5, c5, rfl, ho5, he5⟩
  have hAll := Lib.hid (abAll_ok (HD.out.ext he5) ho5.ints (wf_chars _))
  have HX5 := Lib.hid (HX4.out.trans he5)
  have hHits := Lib.hid (hits_wsA HD.out.ok HD.out.falls)
  clear ho5 he5
  go_wp2_with fail
  refine hAll.out.mono ?_
  rintro e w6 ⟨he6, ⟨hb, _⟩ | ⟨_, B, k, e0, rfl, hO⟩⟩
  · exact absurd hb (by decide)
  rw [show (ByteArray.mk #[115, 104, 101]).size = 3 from rfl, hHits.out] at hO
  have HO := Lib.hid hO
  have HX6 := Lib.hid (HX5.out.trans he6)
  clear hO he6 hAll
  go_wp2_with fail
  have eB := Ext.alloc w6 (.cells #[.int .i64 1, .int .i64 3, .int .i64 0, .int .i64 3, .int .i64 2, .int .i64 3] 34)
  have hlitH : Hrs (w6.alloc (.cells #[.int .i64 1, .int .i64 3, .int .i64 0, .int .i64 3, .int .i64 2, .int .i64 3] 34)) (some ⟨w6.heap.size, 0, none⟩) 3 3 [(1, 3), (0, 3), (2, 3)] :=
    ⟨rfl, Nat.le_refl _, by unfold maxLen; omega, fun _ => ⟨_, rfl, fun j u hu => by
      have e1 : (⟨w6.heap.size, 0, none⟩ : Addr).add j = ⟨w6.heap.size, j, none⟩ := by simp [Addr.add_lit]
      rw [e1, (Blk.new w6 34 _).cell j]
      simpa [hitC] using hu⟩⟩
  have hOr : Hrs (w6.alloc (.cells #[.int .i64 1, .int .i64 3, .int .i64 0, .int .i64 3, .int .i64 2, .int .i64 3] 34)) B k e0 [(1, 3), (0, 3), (2, 3)] := Rd.ext (Own.rd HO.out) eB
  refine (equalH_same hOr hlitH).mono ?_
  rintro e w7 ⟨rfl, he7⟩
  have HX7 := Lib.hid (HX6.out.trans (eB.trans he7))
  have hnw := Lib.hid (abNew_ok (HL.out.ext HX7.out) HWF.out)
  clear he7 eB hlitH hOr HO HX6 HD hHits
  go_wp2_with fail
  refine hnw.out.mono ?_
  rintro e w8 ⟨he8, ⟨hb, z, hz0, rfl⟩ | ⟨hgood, t2, x2, hD, rfl⟩⟩
  · have HX8 := Lib.hid (HX7.out.trans he8)
    clear hnw he8 hb
    go_wp2_with fail
    go_ret
    exact ⟨rfl, HX8.out⟩
  have HD := Lib.hid hD
  have HX8 := Lib.hid (HX7.out.trans he8)
  have hAll := Lib.hid (abAll_ok hD (HQ.out.ext (HX7.out.trans he8)) HWQ.out)
  clear hD he8 hnw hgood
  go_wp2_with fail
  refine hAll.out.mono ?_
  rintro e w9 ⟨he9, ⟨hb, rfl⟩ | ⟨hm4, B2, k2, e2, rfl, hO⟩⟩
  · have HX9 := Lib.hid (HX8.out.trans he9)
    clear hAll he9
    go_wp2_with fail
    go_ret
    exact ⟨rfl, HX9.out⟩
  have HO : Hid (Hrs w9 B2 k2 e2 (hitP t2 x2.fall q m)) := Lib.hid (Own.rd hO)
  have hkl : k2 = (hitP t2 x2.fall q m).length := by have := HO.out.len; omega
  have HKL := Lib.hid hkl
  have HX9 := Lib.hid (HX8.out.trans he9)
  have hn1 : n ≤ 100 := by have := HD.out.good.1; have := HLN.out; omega
  clear hO hkl he9 hAll
  go_wp2_with fail
  go_loopw [10, 67] (fun cv kv wr => ∃ (k cnt : Nat), k ≤ n ∧ kv = .int .i64 k ∧ cv = .int .i64 cnt ∧ cnt ≤ 5000 * k ∧ Hid (Counted ls q k 0 cnt) ∧ Hid (Ext w9 wr)) (fun _ kv _ => n + 1 - (intOf kv).toNat)
  case atStart => exact ⟨0, 0, Nat.zero_le _, rfl, rfl, by omega, Lib.hid (Counted.start ls q), Lib.hid (Ext.refl _)⟩
  case round =>
    obtain ⟨k, cnt, hk, rfl, rfl, hcnt, HC, HE⟩ := hrel
    by_cases hlt : k < n
    · obtain ⟨ad, v, rfl, hc, W, z, dz, rfl, hi, hWd, hz8⟩ := HL.out.at_ hlt
      have c1 := (HX9.out.trans HE.out).cell hc
      have hg := HD.out.good.2 k (by rw [HLN.out]; exact hlt)
      have hzl : (gL ls k).length = z := hi.len
      rw [hzl] at hg
      obtain ⟨hz1, hz2⟩ := hg
      have HI := Lib.hid hi
      have HZL := Lib.hid hzl
      have hzd := hi.ncap
      have hdz := hi.nmax
      unfold maxLen at hdz
      have HC2 := Lib.hid (HC.out.at (p := z) (by rw [hzl]; exact Nat.le_refl _))
      clear hc hi hzl
      go_wp2_with fail
      generalize wr = wo at *
      go_loopw [10, 13] (fun cv tv wr => ∃ (p cnt : Nat), z ≤ p ∧ p ≤ m + 1 + z ∧ tv = .int .i64 p ∧ cv = .int .i64 cnt ∧ cnt ≤ 5000 * k + (p - z) ∧ Hid (Counted ls q k p cnt) ∧ Hid (Ext w9 wr)) (fun _ tv _ => m + 1 - (intOf tv).toNat)
      case atStart => exact ⟨z, cnt, Nat.le_refl _, by omega, rfl, rfl, by omega, HC2, HE⟩
      case round =>
        clear HC HC2 HE
        obtain ⟨p, cnt, hp1, hp2, rfl, rfl, hcnt, HC, HE⟩ := hrel
        by_cases hpm : p ≤ m
        · obtain ⟨a0, ha0⟩ : ∃ a0, a0 = p - z := ⟨_, rfl⟩
          have hpi : (p : Int) - (z : Int) = (a0 : Int) := by omega
          have hcut := run_cutA Q m d a0 p (by omega) (by omega)
          have hIn := (HQ.out.ext (HX9.out.trans HE.out)).cutA (a := a0) (b := p) (by omega) hpm
          have hEq := Lib.hid (equal_ext (HI.out.ext (HX9.out.trans HE.out)) hIn)
          have HA0 := Lib.hid ha0
          clear ha0 hIn
          go_wp2_with fail
          refine hEq.out.mono ?_
          rintro e w10 ⟨rfl, he10⟩
          have hsuf : (eqB (gL ls k) ((q.drop a0).take (p - a0)) = true ↔ HitAt ls q k p) := by
            rw [eqB_true]
            unfold HitAt
            have e1 : p - a0 = (gL ls k).length := by rw [HZL.out, HA0.out]; omega
            have e2 : a0 = p - (gL ls k).length := by rw [HZL.out, HA0.out]
            rw [suffix_cut (by rw [HZL.out]; exact hp1) (by rw [HQL.out]; exact hpm), e1, e2]
            exact ⟨fun h => ⟨by rw [HLN.out]; exact hlt, h⟩, fun h => h.2⟩
          have HE10 := Lib.hid (HE.out.trans he10)
          by_cases hhit : HitAt ls q k p
          · have hb := hsuf.2 hhit
            rw [hb]
            have HC3 := Lib.hid (HC.out.hit (by omega) (by rw [HQL.out]; exact hpm) hhit)
            have hin : (k, p) ∈ hitP t2 x2.fall q m := (hit_mem HD.out.ok HD.out.falls HD.out.good m k p).2 ⟨by omega, hpm, hhit⟩
            have hCon := containsH_ok (x := (k, p)) (HO.out.ext HE10.out)
            rw [decide_eq_true hin] at hCon
            have HCON := Lib.hid hCon
            clear hb hsuf hhit hin hCon he10 hEq
            go_wp2_with fail
            refine HCON.out.mono ?_
            rintro e w11 ⟨rfl, he11⟩
            have HE11 := Lib.hid (HE10.out.trans he11)
            clear he11
            go_wp2_with fail
            go_roundw
            case rel => exact ⟨p + 1, cnt + 1, by omega, by omega, by go_num, by go_num, by omega, HC3, HE11⟩
            case measure => simp [intOf]; omega
          · have hb : eqB (gL ls k) ((q.drop a0).take (p - a0)) = false := by
              cases hq : eqB (gL ls k) ((q.drop a0).take (p - a0)) with
              | false => rfl
              | true => exact absurd (hsuf.1 hq) hhit
            rw [hb]
            have HC3 := Lib.hid (HC.out.miss hhit)
            clear hb hsuf hhit he10 hEq
            go_wp2_with fail
            go_roundw
            case rel => exact ⟨p + 1, cnt, by omega, by omega, by go_num, rfl, by omega, HC3, HE10⟩
            case measure => simp [intOf]; omega
        · have HC3 := Lib.hid (HC.out.word (by rw [HQL.out]; omega))
          go_wp2_with fail
          go_roundw
          case rel => exact ⟨k + 1, cnt, by omega, by go_num, rfl, by omega, HC3, HE⟩
          case measure => simp [intOf]; omega
    · obtain rfl : k = n := by omega
      have hfin : cnt = k2 := by
        have h1 := HC.out
        rw [← HLN.out] at h1
        rw [HKL.out, ← HQL.out]
        exact h1.all HD.out.ok HD.out.falls HD.out.good
      subst hfin
      go_wp2_with fail
      go_ret
      exact ⟨rfl, HX9.out.trans HE.out⟩
end Go.Proofs.Ytdkjkcegchohfaa
