/-
  The walk of AbbrParts.
-/
import Derived.Test.YtdkjkcegchohfaaAbX
import Derived.Test.YtdkjkcegchohfaaConcB
namespace Go.Proofs.Ytdkjkcegchohfaa
open Go.RowKit Go.Maps
set_option linter.unusedVariables false
set_option linter.unusedSimpArgs false
attribute [local go_sem] Oper.semAt_some

def wsB : List (List Int) := [chars ⟨#[97, 98]⟩]
theorem good_wsB : GoodA wsB := ⟨by decide, fun i hi => by
  have : i = 0 := by simp [wsB] at hi; omega
  subst this; decide⟩
theorem wf_charsB (s : ByteArray) : ∀ y ∈ chars s, (Lit.int .i64 y).wf = true := fun y hy => by
  unfold chars at hy
  simp at hy
  obtain ⟨b, _, rfl⟩ := hy
  have := b.toNat_lt
  exact wf_i64' (by omega) (by omega)
theorem wf_wsB : WfA wsB := fun i hi => by
  have : i = 0 := by simp [wsB] at hi; omega
  subst this; exact wf_charsB _
theorem ends_wsB {t : AC} {fall : Nat → Nat} (h : t.Ok wsB) (hf : ∀ i, i < t.N → i ≠ 0 → FallAt t fall i) : chA t fall (stA t [97, 98]) = [0] := by
  obtain ⟨h3, h4⟩ := chA_at h hf good_wsB [97, 98]
  refine pw_unique (fun a b hab hba => ?_) h4 (List.pairwise_singleton _ _) (fun k => (h3 k).trans ?_)
  · omega
  · rw [List.mem_singleton]
    constructor
    · rintro ⟨a, _⟩; simp [wsB] at a; omega
    · rintro rfl; exact ⟨by decide, by decide⟩

/-- What lies ahead of a part. -/
def uA (p q : List Int) (j : Nat) : List Int := ([p, q].take j).flatten
theorem uA_len {p q : List Int} {j : Nat} (h : j < 2) : (uA p q j).length + (gL [p, q] j).length ≤ p.length + q.length := by
  have : j = 0 ∨ j = 1 := by omega
  rcases this with rfl | rfl
  · simp [uA, gL]
  · simp [uA, gL]
theorem uA_step {p q : List Int} {j : Nat} (h : j < 2) : uA p q j ++ gL [p, q] j = uA p q (j + 1) := by
  have : j = 0 ∨ j = 1 := by omega
  rcases this with rfl | rfl
  · simp [uA, gL]
  · simp [uA, gL]
theorem uA_take {p q : List Int} {j i : Nat} (h : j < 2) (hi : i ≤ (gL [p, q] j).length) : (p ++ q).take ((uA p q j).length + i) = uA p q j ++ (gL [p, q] j).take i := by
  have : j = 0 ∨ j = 1 := by omega
  rcases this with rfl | rfl
  · have : i ≤ p.length := hi
    simp [uA, gL, List.take_append_of_le_length this]
  · simp [uA, gL, List.take_length_add_append]
set_option maxRecDepth 20000 in
set_option maxHeartbeats 4000000 in
theorem abbrParts_walk {A P Q : Option Addr} {n c m d m' d' : Nat} {ls : List (List Int)} {p q : List Int} {w : World} (hl : Lns w A n c ls) (hwf : WfA ls) (hp : Ints w P m d p) (hP : P = none → d = 0) (hp8 : m * 8 ≤ 140737488351232) (hwp : ∀ y ∈ p, (Lit.int .i64 y).wf = true)
    (hq : Ints w Q m' d' q) (hQ : Q = none → d' = 0) (hq8 : m' * 8 ≤ 140737488351232) (hwq : ∀ y ∈ q, (Lit.int .i64 y).wf = true) :
    Calls Try.prog 4 #[.slice A n c, .slice P m d, .slice Q m' d'] w fun e w' => e = .returned (.bool true) ∧ Ext w w' := by
  obtain ⟨j0, hj0, hy0, hy1, hy2⟩ := info_parts info_hit
  have HL := Lib.hid hl
  have HWF := Lib.hid hwf
  have HP := Lib.hid hp
  have HP0 := Lib.hid hP
  have HQ := Lib.hid hq
  have HQ0 := Lib.hid hQ
  have HWP := Lib.hid hwp
  have HWQ := Lib.hid hwq
  have HLN := Lib.hid hl.len
  have HPL := Lib.hid hp.len
  have HQL := Lib.hid hq.len
  have HP8 := Lib.hid hp8
  have HQ8 := Lib.hid hq8
  clear hl hq hp hwf hwq hwp hP hQ hp8 hq8
  go_enter Try.func4, Try.ntmps4
  go_wp2_with fail
  refine (of_ok _ _ (by decide)).mono ?_
  rintro e w1 ⟨A1, c1, rfl, ho1, he1⟩
  have eA := Ext.alloc w1 (.cells #[.slice A1 2 c1] 23)
  have hlit := Lns.lit (W := w1) (vs := [.slice A1 2 c1]) (n := 1) ((LnV.nil _).more ((ho1.reg (by decide)).to eA)) rfl (by decide)
  have hnw := Lib.hid (abNew_ok (ls := wsB) hlit wf_wsB)
  have HX3 := Lib.hid (he1.trans eA)
  clear eA he1 hlit ho1
  go_wp2_with fail
  refine hnw.out.mono ?_
  rintro e w4 ⟨he4, ⟨hb, _⟩ | ⟨_, t, x, hD, rfl⟩⟩
  · exact absurd good_wsB hb
  have HD := Lib.hid hD
  have HX4 := Lib.hid (HX3.out.trans he4)
  obtain ⟨K, hA⟩ := hD.mem
  have HA := Lib.hid hA
  have hst1 := Lib.hid (abStep_ok (i := 0) (c := 97) HD.out.ok hA hD.ok.pos (fun i hi h0 _ => hD.falls i hi h0) (wf_i64' (by omega) (by omega)))
  clear hD he4 hnw hA
  go_wp2_with fail
  refine hst1.out.mono ?_
  rintro e w5 ⟨rfl, j1, rfl, hj1⟩
  have HJ1 : Hid (j1 = stA t [97]) := Lib.hid (by
    rw [← stA_nil HD.out.ok] at hj1
    exact stA_step HD.out.ok hj1)
  have hst2 := Lib.hid (abStep_ok (i := j1) (c := 98) HD.out.ok HA.out hj1.1 (fun i hi h0 _ => HD.out.falls i hi h0) (wf_i64' (by omega) (by omega)))
  clear hj1
  go_wp2_with fail
  refine hst2.out.mono ?_
  rintro e w6 ⟨rfl, j2, rfl, hj2⟩
  have HJ2 : Hid (j2 = stA t [97, 98]) := Lib.hid (by
    rw [HJ1.out] at hj2
    exact stA_step HD.out.ok hj2)
  have hE := Lib.hid (abEnds_ok HD.out hj2.1)
  clear hj2 hst2 hst1
  go_wp2_with fail
  refine hE.out.mono ?_
  rintro e w7 ⟨he7, B, k, e0, rfl, hB, _⟩
  have hk1 : k = 1 := by
    have h1 := hB.ints.len
    rw [HJ2.out, ends_wsB HD.out.ok HD.out.falls] at h1
    simpa [natI] using h1.symm
  subst hk1
  have HX7 := Lib.hid (HX4.out.trans he7)
  have hnw := Lib.hid (abNew_ok (HL.out.ext HX7.out) HWF.out)
  clear hE he7 hB HA HD HJ1 HJ2
  go_wp2_with fail
  refine hnw.out.mono ?_
  rintro e w8 ⟨he8, ⟨hb, z, hz0, rfl⟩ | ⟨hgood, t2, x2, hD, rfl⟩⟩
  · have HX8 := Lib.hid (HX7.out.trans he8)
    clear hnw he8 hb
    go_wp2_with fail
    go_ret
    exact ⟨rfl, HX8.out⟩
  have HD := Lib.hid hD
  have HX8 := Lib.hid (HX7.out.trans he8)
  clear hD he8 hnw hgood
  go_wp2_with fail
  have eL := Ext.alloc w8 (.cells #[.slice P m d, .slice Q m' d'] 23)
  have hCo := Lib.hid (concat_big (Rd.litAt w8 _ [.slice P m d, .slice Q m' d'] rfl rfl (Nat.le_of_ble_eq_true rfl)) (ListsN.two (HP.out.ext (HX8.out.trans eL)) HP0.out (HQ.out.ext (HX8.out.trans eL)) HQ0.out) rfl (by simp; rw [HPL.out, HQL.out]; have := HP8.out; have := HQ8.out; omega))
  have HXL := Lib.hid (HX8.out.trans eL)
  have HDL := Lib.hid (HD.out.ext eL)
  clear eL
  refine hCo.out.mono ?_
  rintro e w9 ⟨B, n9, c9, rfl, hO9, he9⟩
  rw [show [p, q].flatten = p ++ q by simp] at hO9
  have hn9 : n9 = m + m' := by have := hO9.ints.len; rw [List.length_append, HPL.out, HQL.out] at this; exact this.symm
  subst hn9
  have HWS : Hid (∀ y ∈ p ++ q, (Lit.int .i64 y).wf = true) := Lib.hid (fun y hy => by
    rcases List.mem_append.1 hy with h | h
    · exact HWP.out y h
    · exact HWQ.out y h)
  have hAll := Lib.hid (abAll_ok (HDL.out.ext he9) hO9.ints HWS.out)
  have HX9 := Lib.hid (HXL.out.trans he9)
  have HD9 := Lib.hid (HDL.out.ext he9)
  clear hO9 he9 hCo HXL HDL HX8 HD
  go_wp2_with fail
  refine hAll.out.mono ?_
  rintro e w10 ⟨he10, ⟨hb, rfl⟩ | ⟨hm4, B2, k2, e2, rfl, hO⟩⟩
  · have HX10 := Lib.hid (HX9.out.trans he10)
    clear hAll he10
    go_wp2_with fail
    go_ret
    exact ⟨rfl, HX10.out⟩
  have HO : Hid (Hrs w10 B2 k2 e2 (hitP t2 x2.fall (p ++ q) (m + m'))) := Lib.hid (Own.rd hO)
  have HX10 := Lib.hid (HX9.out.trans he10)
  have HD10 := Lib.hid (HD9.out.ext he10)
  have eM := Ext.alloc w10 (.cells #[.slice P m d, .slice Q m' d'] 23)
  have HLP : Hid (Lns (w10.alloc (.cells #[.slice P m d, .slice Q m' d'] 23)) (some ⟨w10.heap.size, 0, none⟩) 2 2 [p, q]) := Lib.hid (Lns.lit (W := w10) (vs := [.slice P m d, .slice Q m' d']) (n := 2) (((LnV.nil _).more ⟨P, m, d, rfl, HP.out.ext (HX10.out.trans eM), HP0.out, by omega⟩).more ⟨Q, m', d', rfl, HQ.out.ext (HX10.out.trans eM), HQ0.out, by omega⟩) rfl (by decide))
  have HEM := Lib.hid eM
  clear hO he10 hAll HD9 HX9 eM
  go_wp2_with fail
  obtain ⟨w11, hw11⟩ : ∃ w11, w11 = w10.alloc (.cells #[.slice P m d, .slice Q m' d'] 23) := ⟨_, rfl⟩
  rw [← hw11] at HLP HEM ⊢
  have HXM := Lib.hid (HX10.out.trans HEM.out)
  have HDM := Lib.hid (HD10.out.ext HEM.out)
  obtain ⟨g0, hg0⟩ : ∃ g0, g0 = w10.heap.size := ⟨_, rfl⟩
  rw [← hg0] at HLP ⊢
  clear hw11 hg0
  go_loopw [10, 11, 12, 63] (fun gv sv tv jv wr => ∃ (j a z n c : Nat) (A : Option Addr), j ≤ 2 ∧ jv = .int .i64 j ∧ sv = .int .i64 a ∧ tv = .int .i64 z ∧ gv = .slice A n c ∧ n ≤ 100 * z ∧ Hid (z = (uA p q j).length) ∧ Hid (a = stA t2 (uA p q j)) ∧ Hid (OwnH wr w11.heap.size A n c (hitP t2 x2.fall (p ++ q) z)) ∧ Hid (Ext w11 wr)) (fun _ _ _ jv _ => 3 - (intOf jv).toNat)
  case atStart => exact ⟨0, 0, 0, 0, 0, none, by omega, rfl, rfl, rfl, rfl, by omega, Lib.hid rfl, Lib.hid (stA_nil HDM.out.ok).symm, Lib.hid (Own.nil _ _ _ _), Lib.hid (Ext.refl _)⟩
  case round =>
    obtain ⟨j, a, z, n', c', A', hj, rfl, rfl, rfl, rfl, hn', HZ, HA, HOn, HE⟩ := hrel
    by_cases hj2 : j < 2
    · obtain ⟨ad, v, hAd, hc, W, k, dk, rfl, hi, hWd, hk8⟩ := HLP.out.at_ hj2
      obtain rfl : ad = ⟨g0, 0, none⟩ := by injection hAd with hAd; exact hAd.symm
      have c1 := HE.out.cell hc
      rw [show (⟨g0, 0, none⟩ : Addr).add j = ⟨g0, j, none⟩ by simp [Addr.add_lit]] at c1
      have hkl := hi.len
      have HKL := Lib.hid hkl
      have HI := Lib.hid hi
      have hkd := hi.ncap
      have hdk := hi.nmax
      unfold maxLen at hdk
      have hzk : z + k ≤ 4096 := by
        have h1 := uA_len (p := p) (q := q) hj2
        rw [HKL.out, ← HZ.out, HPL.out, HQL.out] at h1
        omega
      have hjd : decide ((j : Int) < 2) = true := by simp; omega
      clear hc hi hkl hAd
      go_wp2_with fail
      generalize wr = wo at *
      go_loopw [10, 11, 12, 69] (fun gv sv tv iv wr => ∃ (i a z' n c : Nat) (A : Option Addr), i ≤ k ∧ z' = z + i ∧ iv = .int .i64 i ∧ sv = .int .i64 a ∧ tv = .int .i64 z' ∧ gv = .slice A n c ∧ n ≤ 100 * z' ∧ Hid (a = stA t2 (uA p q j ++ (gL [p, q] j).take i)) ∧ Hid (OwnH wr w11.heap.size A n c (hitP t2 x2.fall (p ++ q) z')) ∧ Hid (Ext w11 wr)) (fun _ _ _ iv _ => k + 1 - (intOf iv).toNat)
      case atStart => exact ⟨0, a, z, n', c', A', Nat.zero_le _, rfl, rfl, rfl, rfl, rfl, hn', Lib.hid (by rw [List.take_zero, List.append_nil]; exact HA.out), HOn, HE⟩
      case round =>
        clear HOn HE HA hn'
        obtain ⟨i, a, z', n', c', A', hi, hz', rfl, rfl, rfl, rfl, hn', HA, HOn, HE⟩ := hrel
        by_cases hlt : i < k
        · obtain ⟨bd, rfl, hbc⟩ := HI.out.at_ (k := i) hlt
          have hck := (HE.out).cell (hbc i hlt)
          have hcw : (Lit.int .i64 (gI (gL [p, q] j) i)).wf = true := by
            have hm : gI (gL [p, q] j) i ∈ gL [p, q] j := gI_in (by rw [HKL.out]; exact hlt)
            have : j = 0 ∨ j = 1 := by omega
            rcases this with rfl | rfl
            · exact HWP.out _ hm
            · exact HWQ.out _ hm
          have hst := stA_spec HDM.out.ok (uA p q j ++ (gL [p, q] j).take i)
          obtain ⟨K2, hA2⟩ := HDM.out.mem
          have HSTEP := Lib.hid (abStep_ok (i := a) HDM.out.ok (hA2.ext HE.out) (by rw [HA.out]; exact hst.1) (fun i hi h0 _ => HDM.out.falls i hi h0) hcw)
          have HTK : Hid (uA p q j ++ (gL [p, q] j).take (i + 1) = (uA p q j ++ (gL [p, q] j).take i) ++ [gI (gL [p, q] j) i]) := Lib.hid (by rw [takeI_snoc (by rw [HKL.out]; exact hlt), List.append_assoc])
          have HZZ := Lib.hid hz'
          have hz5 : z' ≤ 4095 := by omega
          clear hbc hst hA2 hz'
          go_wp2_with fail
          refine HSTEP.out.mono ?_
          rintro e w2 ⟨rfl, b, rfl, hb⟩
          have HB0 : Hid (b = stA t2 (uA p q j ++ (gL [p, q] j).take (i + 1))) := Lib.hid (by rw [HTK.out]; rw [HA.out] at hb; exact stA_step HDM.out.ok hb)
          have HBN := Lib.hid hb.1
          clear hb
          go_wp2_with fail
          refine (abEnds_ok (HDM.out.ext HE.out) HBN.out).mono ?_
          rintro e w3 ⟨hx3, B3, y3, d3, rfl, hB, hq⟩
          have HB := Lib.hid hB
          have HBL : Hid ((chA t2 x2.fall b).length = y3) := Lib.hid (by have := hB.ints.len; simpa [natI] using this)
          have hqd := hB.ints.ncap
          have hqm := hB.ints.nmax
          unfold maxLen at hqm
          have HO3 : Hid (OwnH w3 w11.heap.size A' n' c' (hitP t2 x2.fall (p ++ q) z')) := Lib.hid (Own.ext HOn.out hx3)
          have HE3 := Lib.hid (HE.out.trans hx3)
          clear hx3 hB
          go_wp2_with fail
          go_loopw [10, 83] (fun ov yv wr => ∃ (y n c : Nat) (A : Option Addr), y ≤ y3 ∧ yv = .int .i64 y ∧ ov = .slice A n c ∧ n ≤ 100 * z' + y ∧ Hid (OwnH wr w11.heap.size A n c (hitP t2 x2.fall (p ++ q) z' ++ ((chA t2 x2.fall b).take y).map fun z => (z, z' + 1))) ∧ Hid (OwnI wr w2.heap.size B3 y3 d3 (natI (chA t2 x2.fall b))) ∧ Hid (Ext w11 wr)) (fun _ yv _ => y3 + 1 - (intOf yv).toNat)
          case atStart => exact ⟨0, n', c', A', Nat.zero_le _, rfl, rfl, by omega, (by simpa using HO3), HB, HE3⟩
          case round =>
            clear HO3 HB HE3
            obtain ⟨y, n', c', A', hy, rfl, rfl, hn', HO', HB, HE'⟩ := hrel
            by_cases hlq : y < y3
            · obtain ⟨ba, rfl, hbc⟩ := HB.out.ints.at_ (k := y) hlq
              have hyl : y < (chA t2 x2.fall b).length := by rw [HBL.out]; exact hlq
              obtain ⟨v, hv⟩ : ∃ v : Nat, v = (chA t2 x2.fall b)[y] := ⟨_, rfl⟩
              have hby := hbc y hlq
              rw [natI_at hyl, ← hv] at hby
              have hown := HO'.out
              have hxx := HE'.out
              have hsz := hxx.hsize
              have HV : Hid ((chA t2 x2.fall b).take (y + 1) = (chA t2 x2.fall b).take y ++ [v]) := Lib.hid (by rw [hv, List.take_add_one, List.getElem?_eq_getElem hyl]; rfl)
              clear hbc hv
              go_wp2_with (at_builtin; refine wpList_push rfl (.tmp 87) (.tmp 91) 29 rfl w11 w11.heap.size 34 j0 _ 2 16 Try.underlying29 hj0 hy0 hy1 hy2 rfl (by decide) A' n' c' _ rfl hown #[.int .i64 v, .int .i64 ((z' : Int) + 1)] rfl (by simp [Value.oneCell']) rfl (by unfold maxLen; omega) (by omega) hxx (Nat.le_refl _) hsz ?_; intro A2 d2 w5 k1 k2 k3 k4)
              go_roundw
              case rel =>
                refine ⟨y + 1, n' + 1, d2, A2, by omega, by go_num, rfl, by omega, Lib.hid ?_, Lib.hid (Own.kept HB.out k2 (.inr (fun e => ?_))), Lib.hid k4⟩
                · unfold OwnH
                  rw [HV.out, List.map_append, ← List.append_assoc, hitC_app]
                  exact k1
                · cases ho : (Value.slice (some ba) y3 d3).ownBlock with
                  | none => cases ho
                  | some g => exact Own.unlike HB.out hown (by decide) g ho (by rw [← e]; exact ho)
              case measure => simp [intOf]; omega
            · obtain rfl : y = y3 := by omega
              go_wp2_with fail
              go_roundw
              case rel =>
                refine ⟨i + 1, b, z' + 1, n', c', A', by omega, by have := HZZ.out; omega, by go_num, rfl, by go_num, rfl, by omega, HB0, Lib.hid ?_, HE'⟩
                have h1 := HO'.out
                rw [List.take_of_length_le (by rw [HBL.out]; exact Nat.le_refl _)] at h1
                have h2 : (p ++ q).take (z' + 1) = uA p q j ++ (gL [p, q] j).take (i + 1) := by
                  rw [← uA_take hj2 (by rw [HKL.out]; exact hlt), ← HZ.out, HZZ.out]
                  rfl
                have h3 : hitP t2 x2.fall (p ++ q) (z' + 1) = hitP t2 x2.fall (p ++ q) z' ++ (chA t2 x2.fall b).map fun z => (z, z' + 1) := by
                  show _ ++ (chA t2 x2.fall (stA t2 ((p ++ q).take (z' + 1)))).map _ = _
                  rw [h2, ← HB0.out]
                rw [h3]; exact h1
              case measure => simp [intOf]; omega
        · obtain rfl : i = k := by omega
          go_wp2_with fail
          go_roundw
          case rel =>
            refine ⟨j + 1, a, z', n', c', A', by omega, by go_num, rfl, rfl, rfl, hn', Lib.hid ?_, Lib.hid ?_, HOn, HE⟩
            · rw [← uA_step hj2, List.length_append, ← HZ.out, HKL.out]; exact hz'
            · rw [HA.out, List.take_of_length_le (by rw [HKL.out]; exact Nat.le_refl _), uA_step hj2]
          case measure => simp [intOf]; omega
    · obtain rfl : j = 2 := by omega
      have hzz : z = m + m' := by
        have h1 : (uA p q 2).length = p.length + q.length := by simp [uA]
        rw [HZ.out, h1, HPL.out, HQL.out]
      subst hzz
      have hEq := Lib.hid (equalH_same (Own.rd HOn.out) (HO.out.ext (HEM.out.trans HE.out)))
      go_wp2_with fail
      refine hEq.out.mono ?_
      rintro e w12 ⟨rfl, he12⟩
      have HX12 := Lib.hid (HXM.out.trans (HE.out.trans he12))
      clear he12
      go_wp2_with fail
      go_ret
      exact ⟨rfl, HX12.out⟩
end Go.Proofs.Ytdkjkcegchohfaa
