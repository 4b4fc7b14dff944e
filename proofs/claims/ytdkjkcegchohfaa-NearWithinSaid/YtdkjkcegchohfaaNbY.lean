/-
  The walk of NearWithin.
-/
import Derived.Test.YtdkjkcegchohfaaNbX
namespace Go.Proofs.Ytdkjkcegchohfaa
open Go.RowKit
set_option linter.unusedVariables false
set_option linter.unusedSimpArgs false
attribute [local go_sem] Oper.semAt_some

/-- What Within says, told of the lists alone. -/
def WithinSaid (ws : List (List Int)) (q : List Int) (m : Nat) (most : Int) (w : World) (e : Ending) (w' : World) : Prop :=
  Ext w w' ∧ ((¬ (m ≤ 200 ∧ 0 ≤ most) ∧ e = .returned (.tuple #[.slice none 0 0, .int .i64 (if 200 < m then 2 else 1)])) ∨
    (m ≤ 200 ∧ 0 ≤ most ∧ ∃ A n c L, e = .returned (.tuple #[.slice A n c, .int .i64 0]) ∧ Nrs w' A n c L ∧ L.length = nearK ws q (min most.toNat 200) ∧ (∀ x d, (x, d) ∈ L ↔ x < ws.length ∧ d = dist (gL ws x) q ∧ d ≤ min most.toNat 200) ∧
      (ws = [chars ⟨#[98, 111, 111, 107]⟩, chars ⟨#[98, 111, 111]⟩, chars ⟨#[99, 97, 112, 101]⟩] → q = chars ⟨#[98, 111, 111, 107]⟩ → most = 1 → L = [(0, 0), (1, 1)])))
theorem withinS_ok {t : BK} {ns : Nat → BkN} {m d b0 : Nat} {most : Int} {Q : Option Addr} {q : List Int} {w : World} (ho : t.Ok) (hb : BkIs w b0 t ns) (hq : Ints w Q m d q) :
    Calls Try.prog 21 #[(ns 0).ptr, .slice Q m d, .int .i64 most] w fun e w' => WithinSaid t.ws q m most w e w' := by
  refine (withinT_ok (most := most) ho hb hq).mono ?_
  rintro e w' ⟨he, ⟨h, rfl⟩ | ⟨h1, h2, rfl⟩ | ⟨h1, h2, A, n, c, L, rfl, hO, hL, hS⟩⟩
  · exact ⟨he, .inl ⟨by omega, by rw [if_pos h]⟩⟩
  · exact ⟨he, .inl ⟨by omega, by rw [if_neg (by omega)]⟩⟩
  · refine ⟨he, .inr ⟨h1, h2, A, n, c, L, rfl, hO.nrs, hits_count hL, fun x d => ?_, fun e1 e2 e3 => ?_⟩⟩
    · rw [hL.2]
      have : t.W x = gL t.ws x := by unfold BK.W gL; simp [List.getD]
      rw [this]
    · subst e2; subst e3
      exact within_book e1 (by simpa using hL) hS

theorem reverse_gL {ls : List (List Int)} {j : Nat} (h : j < ls.length) : gL ls.reverse (ls.length - 1 - j) = gL ls j := by
  unfold gL
  rw [List.getElem?_reverse (by omega)]
  congr 2
  omega
theorem LnV.rev {w : World} {xs : List Value} {ls : List (List Int)} (h : LnV w xs ls) : LnV w xs.reverse ls.reverse :=
  ⟨by simp [h.1], fun i hi => by
    rw [List.length_reverse] at hi
    obtain ⟨v, h1, h2⟩ := h.2 (ls.length - 1 - i) (by omega)
    refine ⟨v, by rw [List.getElem?_reverse (by rw [h.1]; exact hi), h.1]; exact h1, ?_⟩
    have : gL ls.reverse i = gL ls (ls.length - 1 - i) := by
      unfold gL
      rw [List.getElem?_reverse hi]
    rw [this]
    exact h2⟩

set_option maxRecDepth 20000 in
set_option maxHeartbeats 8000000 in
theorem nearWithin_walk {A Q : Option Addr} {n c m d : Nat} {ls : List (List Int)} {q : List Int} {most : Int} {w : World} (hl : Lns w A n c ls) (hA : A = none → c = 0) (hn24 : n * 24 ≤ 140737488351232) (hq : Ints w Q m d q) :
    Calls Try.prog 6 #[.slice A n c, .slice Q m d, .int .i64 most] w fun e w' => e = .returned (.bool true) ∧ Ext w w' := by
  have HN := Lib.hid hl.len
  have hm := Nat.le_trans hq.ncap hq.nmax
  have hnm := Nat.le_trans hl.ncap hl.nmax
  unfold maxLen at hm hnm
  have HL := Lib.hid hl
  have HQ := Lib.hid hq
  have HA := Lib.hid hA
  clear hl hq hA
  go_enter Try.func6, Try.ntmps6
  go_wp2_with fail
  refine (of_ok _ _ (by decide)).mono ?_
  rintro e w1 ⟨A1, c1, rfl, ho1, he1⟩
  go_wp2_with fail
  refine (of_ok _ _ (by decide)).mono ?_
  rintro e w2 ⟨A2, c2, rfl, ho2, he2⟩
  go_wp2_with fail
  refine (of_ok _ _ (by decide)).mono ?_
  rintro e w3 ⟨A3, c3, rfl, ho3, he3⟩
  have eA := Ext.alloc w3 (.cells #[.slice A1 4 c1, .slice A2 3 c2, .slice A3 4 c3] 23)
  have hlit := Lns.lit (W := w3) (vs := [.slice A1 4 c1, .slice A2 3 c2, .slice A3 4 c3]) (n := 3) ((((LnV.nil _).more ((ho1.reg (by decide)).to (he2.trans (he3.trans eA)))).more ((ho2.reg (by decide)).to (he3.trans eA))).more ((ho3.reg (by decide)).to eA)) rfl (by decide)
  go_wp2_with fail
  refine (new_ok hlit).mono ?_
  rintro e w4 ⟨he4, ⟨hb, _⟩ | ⟨_, t, ns, ht, hws, hT, rfl⟩⟩
  · exact absurd good_book3 hb
  have hx4 : Ext w w4 := he1.trans (he2.trans (he3.trans (eA.trans he4)))
  unfold BkN.ptr
  clear eA he1 he2 he3 he4 hlit ho1 ho2 ho3
  go_wp2_with fail
  refine (of_ok _ _ (by decide)).mono ?_
  rintro e w5 ⟨A5, c5, rfl, ho5, he5⟩
  have hB := withinS_ok (most := 1) ht (hT.ext he5) ho5.ints
  unfold BkN.ptr at hB
  rw [hws] at hB
  have hx5 := hx4.trans he5
  clear hx4 he5 ho5 hT ht hws
  go_wp2_with fail
  refine hB.mono ?_
  rintro e w6 ⟨he6, ⟨h, _⟩ | ⟨_, _, B6, n6, d6, L, rfl, hN6, _, _, hL6⟩⟩
  · exact absurd ⟨by decide, by decide⟩ h
  obtain rfl := hL6 rfl rfl rfl
  obtain rfl : n6 = 2 := by have := hN6.len; simpa using this.symm
  have eB := Ext.alloc w6 (.cells #[.int .i64 0, .int .i64 0, .int .i64 1, .int .i64 1] 53)
  have hE := equalN_same (hN6.ext eB) (B := some ⟨w6.heap.size, 0, none⟩) (m := 2) (d := 2) (l := [(0, 0), (1, 1)]) ⟨rfl, by decide, by decide, fun _ => ⟨_, rfl, fun j u hu => by
    have : (⟨w6.heap.size, 0, none⟩ : Addr).add j = ⟨w6.heap.size, j, none⟩ := by simp [Addr.add_lit]
    rw [this, (Blk.new w6 53 #[.int .i64 0, .int .i64 0, .int .i64 1, .int .i64 1]).cell j]
    simpa [nearC] using hu⟩⟩
  have hx6 := hx5.trans (he6.trans eB)
  clear hB hx5 he6 eB hN6 hL6
  go_wp2_with fail
  refine hE.mono ?_
  rintro e w7 ⟨rfl, he7⟩
  have hx7 := hx6.trans he7
  clear hE hx6 he7
  go_wp2_with fail
  refine (new_ok (HL.out.ext hx7)).mono ?_
  rintro e w8 ⟨he8, ⟨_, k, hk, rfl⟩ | ⟨hgood, t, ns, ht, hws, hT, rfl⟩⟩
  · go_wp2_with fail
    go_ret
    exact ⟨rfl, hx7.trans he8⟩
  have hx8 := hx7.trans he8
  have HG := Lib.hid hgood
  have hn0 : 0 < n := by have := hgood.1; have := HN.out; omega
  have hn1 : n ≤ 100 := by have := hgood.2.1; have := HN.out; omega
  unfold BkN.ptr
  have HT := Lib.hid (And.intro ht (And.intro hws hT))
  clear hx7 he8 ht hws hT hgood
  obtain ⟨xs, hxs, hLV⟩ := HL.out
  have HXS := Lib.hid hxs
  have HLV := Lib.hid hLV
  have hc2 := clone2_ok (Rd.ext hxs hx8) hLV.one HA.out (by omega)
  clear hxs hLV
  go_wp2_with fail
  refine hc2.mono ?_
  rintro e w9 ⟨B9, d9, rfl, hO9, hB9, he9⟩
  have hx9 := hx8.trans he9
  rcases hO9.2 with ⟨_, h0⟩ | ⟨g, cap, cur, hv, _⟩
  · omega
  injection hv with hv _ hdc
  subst hv
  subst hdc
  have hr := reverseL_ok hO9 (fun i hi => by
    obtain ⟨v, h1, B, n', c', rfl, _⟩ := HLV.out.2 i (by rw [HN.out]; exact hi)
    exact ⟨B, n', c', by unfold gV; rw [h1]; rfl⟩) (by omega)
  clear hc2
  go_wp2_with fail
  refine hr.mono ?_
  rintro e w10 ⟨rfl, hO10, hg10⟩
  have he10 : Ext w8 w10 := Below.grown he9 hg10 he9.hsize (fun k hk => by injection hk with hk; have := (Own.blk hO9 g rfl).1; omega)
  have hx10 := hx8.trans he10
  have hLn : Lns w10 (some ⟨g, 0, none⟩) n d9 ls.reverse := ⟨_, Own.rd hO10, (LnV.rev (HLV.out.ext hx10))⟩
  clear hr hO9 hg10 hB9 he9 hx9
  go_wp2_with fail
  refine (new_ok hLn).mono ?_
  rintro e w11 ⟨he11, ⟨hb, _⟩ | ⟨_, u, us, hu, huw, hU, rfl⟩⟩
  · exact absurd HG.out.rev hb
  have hx11 := hx10.trans he11
  have hC1 := withinS_ok (most := most) HT.out.1 (HT.out.2.2.ext (he10.trans he11)) (HQ.out.ext hx11)
  have HU := Lib.hid (And.intro hu (And.intro huw hU))
  rw [HT.out.2.1] at hC1
  unfold BkN.ptr at hC1 ⊢
  clear hLn hO10 hu huw hU hx10 he10 he11
  go_wp2_with fail
  refine hC1.mono ?_
  rintro e w12 ⟨he12, h12⟩
  have hx12 := hx11.trans he12
  have hC2 := withinS_ok (most := most) HU.out.1 (HU.out.2.2.ext he12) (HQ.out.ext hx12)
  rw [HU.out.2.1] at hC2
  unfold BkN.ptr at hC2
  rcases h12 with ⟨hno, rfl⟩ | ⟨hm200, hmost, B, nL, cL, L, rfl, hNL, hlenL, hmemL, _⟩
  · clear hC1
    by_cases h200 : 200 < m
    · rw [if_pos h200]
      clear hno
      go_wp2_with fail
      refine hC2.mono ?_
      rintro e w13 ⟨he13, ⟨_, rfl⟩ | ⟨h1, h2, _⟩⟩
      · rw [if_pos h200]
        go_wp2_with fail
        go_ret
        exact ⟨rfl, hx12.trans he13⟩
      · omega
    · rw [if_neg h200]
      go_wp2_with fail
      refine hC2.mono ?_
      rintro e w13 ⟨he13, ⟨_, rfl⟩ | ⟨h1, h2, _⟩⟩
      · rw [if_neg h200]
        go_wp2_with fail
        go_ret
        exact ⟨rfl, hx12.trans he13⟩
      · exact absurd ⟨h1, h2⟩ hno
  clear hC1
  have HmL := Lib.hid hmemL
  have HlL := Lib.hid hlenL
  clear hmemL hlenL
  go_wp2_with fail
  refine hC2.mono ?_
  rintro e w13 ⟨he13, ⟨h, _⟩ | ⟨_, _, B', nM, cM, M, rfl, hNM, hlenM, hmemM, _⟩⟩
  · exact absurd ⟨hm200, hmost⟩ h
  have hx13 := hx12.trans he13
  have hNL2 := hNL.ext he13
  have hMn := hNM.len
  have hLn := hNL.len
  have hK : nearK ls.reverse q (min most.toNat 200) = nearK ls q (min most.toNat 200) := by unfold nearK; rw [List.countP_reverse]
  rw [hK] at hlenM
  obtain ⟨K, hKd⟩ : ∃ K, K = min most.toNat 200 := ⟨_, rfl⟩
  rw [← hKd] at HmL HlL hmemM hlenM
  have hend : Hid (nL = nearK ls q K ∧ nM = nearK ls q K) := Lib.hid ⟨by rw [← HlL.out]; exact hLn.symm, by rw [← hlenM]; exact hMn.symm⟩
  have hF : Hid (∀ j, j < n → farV (gL ls j) q = (dist (gL ls j) q : Int) ∧ ((dist (gL ls j) q : Int) ≤ most ↔ dist (gL ls j) q ≤ K) ∧ ((j, dist (gL ls j) q) ∈ L ↔ dist (gL ls j) q ≤ K) ∧ ((n - 1 - j, dist (gL ls j) q) ∈ M ↔ dist (gL ls j) q ≤ K)) := Lib.hid (fun j hj => by
    have g1 : (gL ls j).length ≤ 200 := by have := HG.out.2.2 j (by rw [HN.out]; exact hj); omega
    have g2 : q.length ≤ 200 := by rw [HQ.out.len]; exact hm200
    have g3 : dist (gL ls j) q ≤ 200 := dist_le g1 g2
    refine ⟨?_, by omega, ?_, ?_⟩
    · unfold farV; rw [if_pos ⟨g1, g2⟩]
    · rw [HmL.out]
      exact ⟨fun h => h.2.2, fun h => ⟨by rw [HN.out]; exact hj, rfl, h⟩⟩
    · rw [hmemM]
      have e := reverse_gL (ls := ls) (j := j) (by rw [HN.out]; exact hj)
      rw [HN.out] at e
      rw [e]
      exact ⟨fun h => h.2.2, fun h => ⟨by rw [List.length_reverse, HN.out]; omega, rfl, h⟩⟩)
  have HKn : Hid (∀ j, nearK (ls.take j) q K ≤ j) := Lib.hid (fun j => Nat.le_trans List.countP_le_length (by simp; omega))
  have HNL := Lib.hid hNL2
  have HNM := Lib.hid hNM
  clear hKd hK hlenM hmemM hNL hNL2 hNM hMn hLn hC2 he13 HmL HlL hx12 he12 hx11 HT HU hx8
  go_wp2_with fail
  go_loopw [96, 17] (fun i cn wr => ∃ j : Nat, j ≤ n ∧ i = .int .i64 j ∧ cn = .int .i64 (nearK (ls.take j) q K) ∧ Ext w13 wr) (fun i _ _ => n - (intOf i).toNat)
  case atStart => exact ⟨0, by omega, rfl, by simp [nearK], Ext.refl _⟩
  case round =>
    obtain ⟨j, hj, rfl, rfl, he⟩ := hrel
    by_cases hlt : j < n
    · obtain ⟨ad, v, rfl, hc, B1, m', d', rfl, hi, hBd, hm8⟩ := HL.out.at_ hlt
      have c1 := he.cell (hx13.cell hc)
      have HI := Lib.hid (hi.ext (hx13.trans he))
      obtain ⟨f1, f2, f3, f4⟩ := hF.out j hlt
      have hst := nearK_step (q := q) (K := K) (show j < ls.length by rw [HN.out]; exact hlt)
      have HF1 := Lib.hid f1
      have hkn := HKn.out j
      clear hi hc f1
      go_wp2_with fail
      refine (far_ok HI.out (HQ.out.ext (hx13.trans he))).mono ?_
      rintro e w14 ⟨rfl, he14⟩
      rw [HF1.out]
      obtain ⟨D, hD⟩ : ∃ D, D = dist (gL ls j) q := ⟨_, rfl⟩
      obtain ⟨N, hN⟩ : ∃ N, N = nearK (ls.take j) q K := ⟨_, rfl⟩
      rw [← hD] at f2 f3 f4 hst ⊢
      rw [← hN] at hst hkn ⊢
      obtain ⟨J, hJ⟩ : ∃ J, n = J + 1 + j := ⟨n - 1 - j, by omega⟩
      have hJi : (n : Int) - 1 - j = (J : Int) := by omega
      rw [show n - 1 - j = J by omega] at f4
      have HST := Lib.hid hst
      have he15 := he.trans he14
      have hc3 := containsN_ok (x := (j, D)) (HNL.out.ext he15)
      have HJ := Lib.hid hJ
      clear hD hN hst c1 HI HF1 hJ
      by_cases hnear : (D : Int) ≤ most
      · have hDK := f2.1 hnear
        have i3 : decide ((j, D) ∈ L) = true := by simpa using f3.2 hDK
        have i4 : decide ((J, D) ∈ M) = true := by simpa using f4.2 hDK
        rw [i3] at hc3
        clear f2 f3 f4
        go_wp2_with fail
        refine hc3.mono ?_
        rintro e w15 ⟨rfl, he16⟩
        have hc4 := containsN_ok (x := (J, D)) (HNM.out.ext (he15.trans he16))
        rw [i4] at hc4
        go_wp2_with fail
        refine hc4.mono ?_
        rintro e w16 ⟨rfl, he17⟩
        clear hc3 hc4 i3 i4
        go_wp2_with fail
        go_roundw
        case rel => exact ⟨j + 1, by omega, by go_num, by rw [HST.out, if_pos hDK]; go_num, he15.trans (he16.trans he17)⟩
        case measure => simp [intOf]; omega
      · have hDK : ¬ D ≤ K := fun h => hnear (f2.2 h)
        have i3 : decide ((j, D) ∈ L) = false := by simpa using fun h => hDK (f3.1 h)
        have i4 : decide ((J, D) ∈ M) = false := by simpa using fun h => hDK (f4.1 h)
        rw [i3] at hc3
        clear f2 f3 f4
        go_wp2_with fail
        refine hc3.mono ?_
        rintro e w15 ⟨rfl, he16⟩
        have hc4 := containsN_ok (x := (J, D)) (HNM.out.ext (he15.trans he16))
        rw [i4] at hc4
        go_wp2_with fail
        refine hc4.mono ?_
        rintro e w16 ⟨rfl, he17⟩
        clear hc3 hc4 i3 i4
        go_wp2_with fail
        go_roundw
        case rel => exact ⟨j + 1, by omega, by go_num, by rw [HST.out, if_neg hDK]; rfl, he15.trans (he16.trans he17)⟩
        case measure => simp [intOf]; omega
    · obtain rfl : j = n := by omega
      obtain ⟨h1, h2⟩ := hend.out
      have h3 : ls.take j = ls := List.take_of_length_le (by rw [HN.out]; exact Nat.le_refl _)
      rw [h3, ← h1]
      have h4 : nM = nL := by omega
      subst h4
      clear h1 h2 h3
      go_wp2_with fail
      go_ret
      exact ⟨rfl, hx13.trans he⟩
end Go.Proofs.Ytdkjkcegchohfaa
