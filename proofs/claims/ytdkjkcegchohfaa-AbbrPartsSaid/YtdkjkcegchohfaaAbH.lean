/-
  Ends.
-/
import Derived.Test.YtdkjkcegchohfaaAbF
namespace Go.Proofs.Ytdkjkcegchohfaa
open Go.RowKit Go.Maps
set_option linter.unusedVariables false
set_option linter.unusedSimpArgs false
attribute [local go_sem] Oper.semAt_some

theorem natI_at {l : List Nat} {a : Nat} (h : a < l.length) : gI (natI l) a = ((l[a] : Nat) : Int) := by
  unfold gI natI; simp [h]
theorem good_ne {ws : List (List Int)} (h : GoodA ws) : ∀ k, k < ws.length → gL ws k ≠ [] := fun k hk e => by
  have := (h.2 k hk).1
  rw [e] at this; simp at this
theorem chA_len {t : AC} {ws : List (List Int)} {fall : Nat → Nat} (h : t.Ok ws) (hf : ∀ i, i < t.N → i ≠ 0 → FallAt t fall i) (hg : GoodA ws) {i : Nat} (hi : i < t.N) : (chA t fall i).length ≤ 100 := by
  obtain ⟨h1, h2⟩ := chA_spec h hf (good_ne hg) _ i hi (Nat.le_refl _)
  refine Nat.le_trans (nodup_lt ws.length (h2.imp (fun {a b} hab e => ?_)) (fun y hy => ((h1 y).1 hy).1)) hg.1
  subst e; omega

set_option maxRecDepth 20000 in
set_option maxHeartbeats 1000000 in
theorem abEnds_ok {w : World} {b0 : Nat} {ls : List (List Int)} {t : AC} {x : AbA} {i : Nat} (D : AbDone w b0 ls t x) (hi : i < t.N) :
    Calls Try.prog 15 #[.pointer (some ⟨x.g, 0, none⟩), .int .i64 i] w fun e w' => Ext w w' ∧ ∃ A n c, e = .returned (.slice A n c) ∧ OwnI w' w.heap.size A n c (natI (chA t x.fall i)) ∧ n ≤ 100 := by
  obtain ⟨j0, hj0, hy0, hy1, hy2⟩ := info_parts info_int
  have HD := Lib.hid D
  obtain ⟨K, hA⟩ := D.mem
  have hmax := hA.max
  have hszl : (szs ls).length ≤ 100 := by have := D.good.1; simpa [szs] using this
  have hx1 := Ext.alloc w (.cells #[.pointer (some ⟨x.g, 0, none⟩)] 24)
  have HA := Lib.hid (hA.ext hx1)
  have c0 := HA.out.c0
  have hp0 : (w.alloc (.cells #[.pointer (some ⟨x.g, 0, none⟩)] 24)).cell? ⟨w.heap.size, 0, none⟩ = some (.pointer (some ⟨x.g, 0, none⟩)) := (Blk.new w 24 #[.pointer (some ⟨x.g, 0, none⟩)]).cell 0
  have hge : decide (t.N ≤ i) = false := by simp; exact hi
  clear D hA
  go_enter Try.func15, Try.ntmps15
  go_upto_region 4 with fail
  have HX1 := Lib.hid hx1
  have HP0 := Lib.hid hp0
  obtain ⟨w1, hw1⟩ : ∃ w1, w1 = w.alloc (.cells #[.pointer (some ⟨x.g, 0, none⟩)] 24) := ⟨_, rfl⟩
  rw [← hw1] at HA HX1 HP0 ⊢
  obtain ⟨gb, hgb⟩ : ∃ gb, gb = w.heap.size := ⟨_, rfl⟩
  rw [← hgb] at HP0 ⊢
  clear hw1 hx1 hp0 c0 hgb
  go_loopw [1, 5] (fun v sv wr => ∃ (k : Nat) (A : Option Addr) (n c : Nat) (l : List Nat), k < t.N ∧ v = .int .i64 k ∧ sv = .slice A n c ∧ n ≤ 100 ∧ Hid (OwnI wr w1.heap.size A n c (natI l)) ∧ Hid (l ++ chA t x.fall k = chA t x.fall i) ∧ Hid (Ext w1 wr)) (fun v _ _ => (t.str (intOf v).toNat).length)
  case atStart => exact ⟨i, none, 0, 0, [], hi, rfl, rfl, by omega, Lib.hid (OwnI.nil _ _), Lib.hid rfl, Lib.hid (Ext.refl _)⟩
  case round =>
    obtain ⟨k, A, n, c, l, hk, rfl, rfl, hn, HO, HL, HE⟩ := hrel
    have p0 := HE.out.cell HP0.out
    have hAr := HA.out.ext HE.out
    have c0 := hAr.c0
    by_cases hk0 : k = 0
    · subst hk0
      have HIn := Lib.hid HO.out.ints
      have hl : l = chA t x.fall i := by have := HL.out; rw [chA_zero HD.out.ok, List.append_nil] at this; exact this
      have HLL := Lib.hid hl
      have hnl : l.length = n := by have := HO.out.ints.len; simpa [natI] using this
      have HNL := Lib.hid hnl
      have HSP := Lib.hid (chA_spec HD.out.ok HD.out.falls (good_ne HD.out.good) _ i hi (Nat.le_refl _))
      have HC : Hid (CmpOn wr 40 gb (natI l)) := Lib.hid (fun W hW a b ha hb => by
        have ha' : a < l.length := by simpa [natI] using ha
        have hb' : b < l.length := by simpa [natI] using hb
        rw [natI_at ha', natI_at hb']
        have hla : l[a] < ls.length := ((HSP.out.1 _).1 (by rw [← HLL.out]; exact List.getElem_mem ha')).1
        have hlb : l[b] < ls.length := ((HSP.out.1 _).1 (by rw [← HLL.out]; exact List.getElem_mem hb')).1
        have hp := HSP.out.2
        rw [← HLL.out, List.pairwise_iff_getElem] at hp
        refine (abCmp_ok (hW.cell (HE.out.cell HP0.out)) ((HA.out.ext HE.out).ext hW) (by simpa [szs] using hla) (by simpa [szs] using hlb) (by omega)).mono ?_
        rintro e W' ⟨rfl, hx⟩
        exact ⟨_, rfl, fun hab => (ord_before hla hlb (hp a b ha' hb' hab)).1, fun hba => (ord_before hlb hla (hp b a hb' ha' hba)).2, hx⟩)
      have HSORT := Lib.hid (sortStable_ok (f := 40) (g := gb) HIn.out HC.out (fun _ _ => rfl) (by omega))
      clear hl hnl
      go_wp2_with fail
      refine HSORT.out.mono ?_
      rintro e w3 ⟨rfl, hx3⟩
      have HIn3 := Lib.hid (Own.lower (Own.ext HO.out hx3) HX1.out.hsize)
      have HX3 := Lib.hid (HX1.out.trans (HE.out.trans hx3))
      clear hx3
      go_wp2_with fail
      go_ret
      exact ⟨HX3.out, A, n, c, rfl, by rw [← HLL.out]; exact HIn3.out, hn⟩
    · have hf0 := hAr.nf hk
      have he0 := hAr.ne hk
      have hends := (hAr.ends k hk).ints
      have hstep := chA_step HD.out.ok HD.out.falls hk hk0
      have hF := HD.out.falls k hk hk0
      have hbd : n + (x.ns k).n ≤ 100 := by
        have h1 := chA_len HD.out.ok HD.out.falls HD.out.good hi
        rw [← HL.out, hstep] at h1
        simp at h1
        have h2 : l.length = n := by have := HO.out.ints.len; simpa [natI] using this
        have h3 : (t.ends k).length = (x.ns k).n := by have := hends.len; simpa [endV] using this
        omega
      have HF := Lib.hid hF
      have HST := Lib.hid hstep
      have hXr := HE.out
      have hsz := hXr.hsize
      have hown := HO.out
      have hone : ∀ u ∈ (endV t k).map (Value.int .i64), u.oneCell' = true := ints_oneCell _ _
      clear hstep hF hAr
      go_wp2_with (at_builtin; refine wpList_app rfl (.tmp 27) (.tmp 35) 23 rfl w1 w1.heap.size 3 j0 _ 1 8 Try.underlying23 hj0 hy0 hy1 hy2 rfl (by decide) A n c _ rfl hown (x.ns k).E (x.ns k).n (x.ns k).c _ rfl hends hone (by unfold maxLen; omega) (by omega) hXr (Nat.le_refl _) hsz ?_; intro A2 d2 w2 k1 k2 k3 k4; have p2 := k4.cell HP0.out; have hA2 := HA.out.ext k4; have c2 := hA2.c0; have f2 := hA2.nf hk; clear hA2)
      go_roundw
      case rel =>
        refine ⟨x.fall k, A2, n + (x.ns k).n, d2, l ++ t.ends k, HF.out.1, rfl, rfl, hbd, Lib.hid ?_, Lib.hid ?_, Lib.hid k4⟩
        · unfold OwnI
          rw [natI_app, List.map_append]
          exact k1
        · rw [← HL.out, HST.out, List.append_assoc]
      case measure =>
        have := fall_less HD.out.ok hk hk0 HF.out
        simpa [intOf] using this
end Go.Proofs.Ytdkjkcegchohfaa
