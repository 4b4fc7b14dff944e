/-
  The walk of NearBest.
-/
import Derived.Test.YtdkjkcegchohfaaNbT
import Derived.Test.YtdkjkcegchohfaaNbN
namespace Go.Proofs.Ytdkjkcegchohfaa
open Go.RowKit
set_option linter.unusedVariables false
set_option linter.unusedSimpArgs false
attribute [local go_sem] Oper.semAt_some

theorem own_nocap {w : World} {base e z n c : Nat} {A : Option Addr} {xs : List Value} (h : Own w base e z A n c xs) : A = none → c = 0 := by
  rintro rfl
  rcases h.2 with ⟨hv, _⟩ | ⟨g', cap, cur, hv, _⟩
  · injection hv
  · injection hv with h1; cases h1
theorem LnV.more {w : World} {xs : List Value} {ls : List (List Int)} {u : Value} {l : List Int} (h : LnV w xs ls) (hu : RegSl w u l) : LnV w (xs ++ [u]) (ls ++ [l]) := by
  refine ⟨by simp [h.1], fun i hi => ?_⟩
  rw [List.length_append, List.length_singleton] at hi
  rcases Nat.lt_or_ge i ls.length with hlt | hge
  · obtain ⟨x, h1, h2⟩ := h.2 i hlt
    exact ⟨x, by rw [List.getElem?_append_left (by rw [h.1]; exact hlt)]; exact h1, by rw [gL_left hlt]; exact h2⟩
  · obtain rfl : i = ls.length := by omega
    exact ⟨u, by rw [List.getElem?_append_right (by rw [h.1]; exact Nat.le_refl _), h.1, Nat.sub_self]; rfl, by rw [gL_last]; exact hu⟩
theorem LnV.nil (w : World) : LnV w [] [] := ⟨rfl, fun i hi => absurd hi (by simp)⟩
/-- A slice of slices that is written out. -/
theorem Lns.lit {W : World} {vs : List Value} {ls : List (List Int)} {n : Nat} (h : LnV (W.alloc (.cells vs.toArray 23)) vs ls) (hn : n = vs.length) (hs : n ≤ 1000) :
    Lns (W.alloc (.cells vs.toArray 23)) (some ⟨W.heap.size, 0, none⟩) n n ls := by
  subst hn
  refine ⟨vs, ⟨by simp, Nat.le_refl _, by unfold maxLen; omega, fun _ => ⟨_, rfl, fun j u hu => ?_⟩⟩, h⟩
  have : (⟨W.heap.size, 0, none⟩ : Addr).add j = ⟨W.heap.size, j, none⟩ := by simp [Addr.add_lit]
  rw [this, (Blk.new W 23 vs.toArray).cell j]
  simpa using hu
/-- A row of the call's own as a slice of the list. -/
theorem OwnI.reg {w : World} {b n c : Nat} {A : Option Addr} {l : List Int} (h : OwnI w b A n c l) (hn : n ≤ 65536) : RegSl w (.slice A n c) l := ⟨A, n, c, rfl, h.ints, own_nocap h, by omega⟩
theorem RegSl.to {w w' : World} {v : Value} {l : List Int} (h : RegSl w v l) (he : Ext w w') : RegSl w' v l := h.ext he

theorem book_look : dist (chars ⟨#[98, 111, 111, 107]⟩) (chars ⟨#[108, 111, 111, 107]⟩) = 1 := by
  simp [dist, chars, lev]
theorem cook_look : dist (chars ⟨#[99, 111, 111, 107]⟩) (chars ⟨#[108, 111, 111, 107]⟩) = 1 := by
  simp [dist, chars, lev]
theorem best_look {t : BK} {x d : Nat} (ht : t.ws = [chars ⟨#[98, 111, 111, 107]⟩, chars ⟨#[99, 111, 111, 107]⟩]) (h : BestB t (chars ⟨#[108, 111, 111, 107]⟩) x d) : x = 0 ∧ d = 1 := by
  obtain ⟨h1, h2, h3⟩ := h
  rw [ht] at h1 h3
  simp at h1
  have h4 := h3 0 (by simp)
  have e0 : t.W 0 = chars ⟨#[98, 111, 111, 107]⟩ := by unfold BK.W; rw [ht]; rfl
  have e1 : t.W 1 = chars ⟨#[99, 111, 111, 107]⟩ := by unfold BK.W; rw [ht]; rfl
  rw [e0, book_look] at h4
  rcases (show x = 0 ∨ x = 1 by omega) with rfl | rfl
  · rw [e0, book_look] at h2; exact ⟨rfl, h2⟩
  · rw [e1, cook_look] at h2; omega
theorem good_book : GoodW [chars ⟨#[98, 111, 111, 107]⟩, chars ⟨#[99, 111, 111, 107]⟩] :=
  ⟨by simp, by simp, fun i hi => by
    simp at hi
    rcases (show i = 0 ∨ i = 1 by omega) with rfl | rfl <;> decide⟩

set_option maxRecDepth 20000 in
set_option maxHeartbeats 1000000 in
theorem nearBest_walk {A Q : Option Addr} {n c m d : Nat} {ls : List (List Int)} {q : List Int} {w : World} (hl : Lns w A n c ls) (hq : Ints w Q m d q) :
    Calls Try.prog 5 #[.slice A n c, .slice Q m d] w fun e w' => e = .returned (.bool true) ∧ Ext w w' := by
  have HN := Lib.hid hl.len
  have hm := Nat.le_trans hq.ncap hq.nmax
  have hnm := Nat.le_trans hl.ncap hl.nmax
  unfold maxLen at hm hnm
  have HL := Lib.hid hl
  have HQ := Lib.hid hq
  clear hl hq
  go_enter Try.func5, Try.ntmps5
  go_wp2_with fail
  refine (of_ok _ _ (by decide)).mono ?_
  rintro e w1 ⟨A1, c1, rfl, ho1, he1⟩
  go_wp2_with fail
  refine (of_ok _ _ (by decide)).mono ?_
  rintro e w2 ⟨A2, c2, rfl, ho2, he2⟩
  have eA := Ext.alloc w2 (.cells #[.slice A1 4 c1, .slice A2 4 c2] 23)
  have hlit := Lns.lit (W := w2) (vs := [.slice A1 4 c1, .slice A2 4 c2]) (n := 2) (((LnV.nil _).more ((ho1.reg (by decide)).to (he2.trans eA))).more ((ho2.reg (by decide)).to eA)) rfl (by decide)
  go_wp2_with fail
  refine (new_ok hlit).mono ?_
  rintro e w3 ⟨he3, ⟨hb, _⟩ | ⟨_, t, ns, ht, hws, hT, rfl⟩⟩
  · exact absurd good_book hb
  have hx3 : Ext w w3 := he1.trans (he2.trans (eA.trans he3))
  unfold BkN.ptr
  clear eA he1 he2 he3 hlit ho1 ho2
  go_wp2_with fail
  refine (of_ok _ _ (by decide)).mono ?_
  rintro e w4 ⟨A4, c4, rfl, ho4, he4⟩
  have hB := bestT_ok ht (hT.ext he4) ho4.ints
  unfold BkN.ptr at hB
  go_wp2_with fail
  refine hB.mono ?_
  rintro e w5 ⟨he5, ⟨h, _⟩ | ⟨_, x, d, hbest, rfl⟩⟩
  · exact absurd h (by decide)
  obtain ⟨rfl, rfl⟩ := best_look hws hbest
  have hx5 : Ext w w5 := hx3.trans (he4.trans he5)
  clear hB hx3 he4 he5 ho4 hbest hT ht hws
  go_wp2_with fail
  refine (new_ok (HL.out.ext hx5)).mono ?_
  rintro e w6 ⟨he6, ⟨_, k, hk, rfl⟩ | ⟨hgood, t, ns, ht, hws, hT, rfl⟩⟩
  · go_wp2_with fail
    go_ret
    exact ⟨rfl, hx5.trans he6⟩
  have hB := bestT_ok ht hT (HQ.out.ext (hx5.trans he6))
  have hx6 := hx5.trans he6
  unfold BkN.ptr at hB ⊢
  clear hx5 he6
  go_wp2_with fail
  refine hB.mono ?_
  rintro e w7 ⟨he7, ⟨h, rfl⟩ | ⟨h, x, d, hbest, rfl⟩⟩
  · go_wp2_with fail
    go_ret
    have h' : (200 : Int) < m := by omega
    exact ⟨ret_bool (by simp [h']), hx6.trans he7⟩
  have hx7 := hx6.trans he7
  have hF : Hid (∀ j, j < n → farV (gL ls j) q = (dist (gL ls j) q : Int) ∧ (d < dist (gL ls j) q ∨ (d = dist (gL ls j) q ∧ x ≤ j)) ∧ (j = x → d = dist (gL ls j) q)) := Lib.hid (fun j hj => by
    have e : t.W j = gL ls j := by unfold BK.W gL; rw [hws]; simp [List.getD]
    have hj2 : j < t.ws.length := by rw [hws, HN.out]; exact hj
    obtain ⟨h1, h2, h3⟩ := hbest
    rw [← e]
    refine ⟨?_, h3 j hj2, fun ej => by rw [ej]; exact h2⟩
    unfold farV
    rw [if_pos ⟨by rw [e]; have := hgood.2.2 j (by rw [HN.out]; exact hj); omega, by rw [HQ.out.len]; exact h⟩])
  have hxn : x < n := by have := hbest.1; rw [hws, HN.out] at this; exact this
  clear hB hT ht hws hbest hgood he7 hx6
  go_wp2_with fail
  go_loopw [75] (fun i wr => ∃ j : Nat, j ≤ n ∧ i = .int .i64 j ∧ Ext w wr) (fun i _ => n - (intOf i).toNat)
  case atStart => exact ⟨0, by omega, rfl, hx7⟩
  case round =>
    obtain ⟨j, hj, rfl, he⟩ := hrel
    by_cases hlt : j < n
    · obtain ⟨ad, v, rfl, hc, B, m', d', rfl, hi, hBd, hm8⟩ := HL.out.at_ hlt
      have c1 := he.cell hc
      have HI := Lib.hid (hi.ext he)
      obtain ⟨f1, f2, f3⟩ := hF.out j hlt
      have HF1 := Lib.hid f1
      clear hi hc f1
      go_wp2_with fail
      refine (far_ok HI.out (HQ.out.ext he)).mono ?_
      rintro e w8 ⟨rfl, he8⟩
      rw [HF1.out]
      obtain ⟨D, hD⟩ : ∃ D, D = dist (gL ls j) q := ⟨_, rfl⟩
      rw [← hD] at f2 f3 ⊢
      have HD := Lib.hid hD
      clear hD
      have hx8 := he.trans he8
      clear he8 HI c1
      by_cases hDd : D = d
      · subst hDd
        have g2 : ¬ j < x := by omega
        clear f2 f3
        go_wp2_with fail
        all_goals exact ⟨⟨j + 1, by omega, by go_num, hx8⟩, by simp [intOf]; omega⟩
      · have g1 : ¬ D < d := by omega
        have e1 : ((D : Int) == (d : Int)) = false := by simp; omega
        have e2 : ((j : Int) == (x : Int)) = false := by
          simp
          intro h
          have := f3 (by omega)
          omega
        clear f2 f3 hDd
        go_wp2_with fail
        go_roundw
        case rel => exact ⟨j + 1, by omega, by go_num, hx8⟩
        case measure => simp [intOf]; omega
    · obtain rfl : j = n := by omega
      go_wp2_with fail
      go_ret
      exact ⟨ret_bool (by simp [hxn]), he⟩
end Go.Proofs.Ytdkjkcegchohfaa
