/-
  The walks of hist.right, Up, Down.
-/
import Derived.Test.YtbhbakejpgndmaaHisT
namespace Go.Proofs.Ytbhbakejpgndmaa
open Go.RowKit
set_option linter.unusedVariables false
set_option linter.unusedSimpArgs false

/-- A history, a line and a count that are right. -/
def Good (h : Hi) (now : List Int) (k : Int) : Prop := ¬ h.bad ∧ ¬ h.long ∧ now.length ≤ 200 ∧ 0 ≤ k ∧ k ≤ 999
def hisL (a b c d e f : Value) : Array Value := #[a, b, c, d, e, f]
theorem HisV.cells {w : World} {v : Value} {h : Hi} (hv : HisV w v h) : ∃ A n c S sn sc P pn pc, v = .agg (hisC A n c h.most h.at_ S sn sc P pn pc h.older) ∧ h.lines.length = n ∧ n ≤ maxLen := by
  obtain ⟨A, n, c, S, sn, sc, P, pn, pc, rfl, hL, _⟩ := hv
  exact ⟨A, n, c, S, sn, sc, P, pn, pc, rfl, hL.len, Nat.le_trans hL.ncap hL.nmax⟩

set_option maxRecDepth 20000 in
set_option maxHeartbeats 4000000 in
theorem right_ok {w : World} {v : Value} {h : Hi} {N : Option Addr} {q y : Nat} {now : List Int} {k : Int} (hv : HisV w v h) (hnow : Ints w N q y now) :
    Calls Try.prog 43 #[v, .slice N q y, .int .i64 k] w fun e w' => ∃ x : Int, e = .returned (.int .i64 x) ∧ (x = 0 ↔ Good h now k) ∧ Ext w w' := by
  have HV := Lib.hid hv
  have HC := Lib.hid (hcheck_ok (hv.ext (Ext.alloc w (.cells (match v with | .agg cs => cs | _ => #[]) 55))))
  obtain ⟨A, n, c, S, sn, sc, P, pn, pc, rfl, _⟩ := hv.cells
  have hql := Lib.hid hnow.len
  have hqy := Nat.le_trans hnow.ncap hnow.nmax
  unfold maxLen at hqy
  simp only at HC
  clear hv hnow
  unfold hisC at *
  go_enter Try.func43, Try.ntmps43
  go_wp2_with fail
  refine HC.out.mono ?_
  rintro e w1 ⟨x, rfl, hck, he1⟩
  have hx := Lib.hid ((Ext.alloc _ _).trans he1)
  have hk := Lib.hid hck
  clear HC he1 hck
  by_cases hx0 : x = 0
  · subst hx0
    have hg := Lib.hid (hk.out.zero rfl)
    by_cases h1 : 200 < q
    · go_wp2_with fail
      go_ret
      exact ⟨2, rfl, ⟨by omega, fun hgd => by have := hgd.2.2.1; have := hql.out; omega⟩, hx.out⟩
    have h1' : q ≤ 200 := by omega
    by_cases h2 : k < 0
    · clear h1
      go_wp2_with fail
      go_ret
      exact ⟨1, rfl, ⟨by omega, fun hgd => by have := hgd.2.2.2.1; omega⟩, hx.out⟩
    have h2' : 0 ≤ k := by omega
    by_cases h3 : 999 < k
    · clear h1 h2
      go_wp2_with fail
      go_ret
      exact ⟨1, rfl, ⟨by omega, fun hgd => by have := hgd.2.2.2.2; omega⟩, hx.out⟩
    · have h3' : k ≤ 999 := by omega
      clear h1 h2 h3
      go_wp2_with fail
      go_ret
      exact ⟨0, rfl, ⟨fun _ => ⟨hg.out.1, hg.out.2, by have := hql.out; omega, h2', h3'⟩, fun _ => rfl⟩, hx.out⟩
  · have hxb : (x != 0) = true := by simpa using hx0
    have hxb2 : (x == 0) = false := by simpa using hx0
    have hng : Hid (¬ Good h now k) := Lib.hid (fun hgd => by
      rcases hk.out with ⟨hb, _⟩ | ⟨_, hl, _⟩ | ⟨_, _, h0⟩
      · exact hgd.1 hb
      · exact hgd.2.1 hl
      · exact hx0 h0)
    have hx0' := Lib.hid hx0
    clear hx0
    go_wp2_with fail
    go_ret
    exact ⟨x, rfl, ⟨fun h0 => absurd h0 hx0'.out, fun hgd => absurd hgd hng.out⟩, hx.out⟩

/-- What Up, Down answer. -/
def Goes (ok : Prop) (h : Hi) (now : List Int) (k : Nat) (w : World) (e : Ending) (w' : World) : Prop :=
  Ext w w' ∧ ((ok ∧ ∃ u L m z, e = .returned (.tuple #[u, .slice L m z, .int .i64 0]) ∧ HisO w' w.heap.size u (toH h now k) ∧ OwnI w' w.heap.size L m z (toL h now k) ∧ (L = none → z = 0)) ∨
    (¬ ok ∧ ∃ x : Int, e = .returned (.tuple #[.agg hisZ, .slice none 0 0, .int .i64 x]) ∧ x ≠ 0))
/-- How far. -/
def farH (k : Int) : Nat := (max 1 k).toNat

/-- What a going tells, and that the history stays whatever becomes of the line. -/
def GoesN (ok : Prop) (h : Hi) (now : List Int) (k : Nat) (w : World) (e : Ending) (w' : World) : Prop :=
  Ext w w' ∧ ((ok ∧ ∃ u L m z, e = .returned (.tuple #[u, .slice L m z, .int .i64 0]) ∧ HisO w' w.heap.size u (toH h now k) ∧ OwnI w' w.heap.size L m z (toL h now k) ∧ (L = none → z = 0) ∧ HisN w' w.heap.size (.slice L m z) u (toH h now k)) ∨
    (¬ ok ∧ ∃ x : Int, e = .returned (.tuple #[.agg hisZ, .slice none 0 0, .int .i64 x]) ∧ x ≠ 0))
theorem GoesN.goes {ok : Prop} {h : Hi} {now : List Int} {k : Nat} {w : World} {e : Ending} {w' : World} (hh : GoesN ok h now k w e w') : Goes ok h now k w e w' :=
  ⟨hh.1, hh.2.imp (fun ⟨h1, u, L, m, z, h2, h3, h4, h5, _⟩ => ⟨h1, u, L, m, z, h2, h3, h4, h5⟩) id⟩

set_option maxRecDepth 20000 in
set_option maxHeartbeats 4000000 in
theorem up_far {w : World} {v : Value} {h : Hi} {N : Option Addr} {q y : Nat} {now : List Int} {k : Int} (hv : HisV w v h) (hnow : Ints w N q y now) (hN : N = none → y = 0) :
    Calls Try.prog 28 #[v, .slice N q y, .int .i64 k] w (GoesN (Good h now k ∧ (farH k : Int) ≤ h.at_) h now (h.at_.toNat - farH k) w) := by
  have HV := Lib.hid hv
  obtain ⟨A, n, c, S, sn, sc, P, pn, pc, rfl, hn, hnm⟩ := hv.cells
  obtain ⟨ls, mo, at_, sl, pl, ol⟩ := h
  simp only at hn ⊢
  have HN := Lib.hid hn
  have HNow := Lib.hid hnow
  have hql := Lib.hid hnow.len
  have hb0 := Lib.hid ((Blk.new w 55 (hisC A n c mo at_ S sn sc P pn pc ol)).ext (Ext.alloc _ (.cells hisZ 55)))
  have hb1 : Hid (Blk ((w.alloc (.cells (hisC A n c mo at_ S sn sc P pn pc ol) 55)).alloc (.cells hisZ 55)) (w.heap.size + 1) 55 hisZ) := Lib.hid (by
    have := Blk.new (w.alloc (.cells (hisC A n c mo at_ S sn sc P pn pc ol) 55)) 55 hisZ
    rwa [World.size_alloc] at this)
  have hx0 : Hid (Ext w ((w.alloc (.cells (hisC A n c mo at_ S sn sc P pn pc ol) 55)).alloc (.cells hisZ 55))) := Lib.hid ((Ext.alloc _ _).to_alloc _)
  have HR := Lib.hid (right_ok (k := k) (HV.out.ext hx0.out) (hnow.ext hx0.out))
  have hsz0 : Hid (w.heap.size + 2 ≤ ((w.alloc (.cells (hisC A n c mo at_ S sn sc P pn pc ol) 55)).alloc (.cells hisZ 55)).heap.size) := Lib.hid (by simp)
  unfold maxLen at hnm
  clear hv hn hnow
  unfold hisC hisZ at *
  go_enter Try.func28, Try.ntmps28
  go_wp2_with fail
  refine HR.out.mono ?_
  rintro e w1 ⟨x, rfl, hgd, he1⟩
  have hx1 := Lib.hid (hx0.out.trans he1)
  have B3 := Lib.hid (Blk.ext hb0.out he1)
  have B6 := Lib.hid (Blk.ext hb1.out he1)
  have hsz1 : w.heap.size + 2 ≤ w1.heap.size := Nat.le_trans hsz0.out he1.hsize
  have HG := Lib.hid hgd
  obtain ⟨k0, k1, k2, k3, k4, k5⟩ := cells6 B3.out
  obtain ⟨d0, d1, d2, d3, d4, d5⟩ := cells6 B6.out
  obtain ⟨f0, f1, f2, f3, f4, f5⟩ := frozen6 B6.out
  have HX := Lib.hid (st6_ext hx1.out (show w.heap.size ≤ w.heap.size + 1 by omega) (.slice none 0 0) (.int .i64 0) (.int .i64 0) (.slice none 0 0) (.slice none 0 0) (.bool false))
  have hfin := Lib.hid (st6_blk B6.out (.slice none 0 0) (.int .i64 0) (.int .i64 0) (.slice none 0 0) (.slice none 0 0) (.bool false))
  unfold st6 at HX hfin
  clear HR hb0 hb1 hx0 he1 hgd
  by_cases hx0 : x = 0
  · subst hx0
    have hg := HG.out.1 rfl
    obtain ⟨g1, _, g3, g4, g5⟩ := hg
    unfold Hi.bad at g1
    simp only at g1
    rw [HN.out] at g1
    rw [hql.out] at g3
    obtain ⟨a, rfl⟩ : ∃ a : Nat, at_ = a := ⟨at_.toNat, by omega⟩
    have ha : a ≤ n := by omega
    have hn50 : n ≤ 50 := by omega
    have HGd := Lib.hid (HG.out.1 rfl)
    clear g1
    obtain ⟨f, hf1, hf2, hf3⟩ : ∃ f : Nat, farH k = f ∧ max 1 k = (f : Int) ∧ f ≤ 999 := ⟨farH k, rfl, by unfold farH; omega, by unfold farH; omega⟩
    have HF1 := Lib.hid hf1
    have HF2 := Lib.hid hf2
    clear hf1 hf2
    have hkc : (k = 0 ∨ k = 1) ∨ 1 < k := by omega
    by_cases hfa : a < f
    · have hno : Hid (¬ (Good ⟨ls, mo, (a : Int), sl, pl, ol⟩ now k ∧ (farH k : Int) ≤ (a : Int))) := Lib.hid (fun hh => by have h2 := hh.2; have h3 := HF1.out; have h4 := HN.out; omega)
      clear HG HGd
      rcases hkc with hk1 | hk1
      · obtain rfl : f = 1 := by have := HF2.out; omega
        rcases hk1 with rfl | rfl
        all_goals
          have hbi : (a : Int) < 1 := by omega
          go_wp2_with fail
          refine bodyPost_ret (v := .tuple #[.agg hisZ, .slice none 0 0, .int .i64 5]) ?_ rfl ⟨HX.out, .inr ⟨hno.out, 5, rfl, by omega⟩⟩
          exact results_row_tmp2 rfl _ _ (w.heap.size + 1) 55 _ _ _ _ _ rfl rfl rfl hfin.out Try.underlying55 rfl (hist_size rfl)
      · have hkf : Hid (k = (f : Int)) := Lib.hid (by have := HF2.out; omega)
        have hbi : (a : Int) < k := by have := hkf.out; omega
        go_wp2_with fail
        refine bodyPost_ret (v := .tuple #[.agg hisZ, .slice none 0 0, .int .i64 5]) ?_ rfl ⟨HX.out, .inr ⟨hno.out, 5, rfl, by omega⟩⟩
        exact results_row_tmp2 rfl _ _ (w.heap.size + 1) 55 _ _ _ _ _ rfl rfl rfl hfin.out Try.underlying55 rfl (hist_size rfl)
    · have hok : Hid (Good ⟨ls, mo, (a : Int), sl, pl, ol⟩ now k ∧ (farH k : Int) ≤ (a : Int)) := Lib.hid ⟨HGd.out, by have h3 := HF1.out; have h4 := HN.out; omega⟩
      have HTN : Hid (((a : Int).toNat - farH k) = a - f) := Lib.hid (by have h3 := HF1.out; simp only [h3]; first | rfl | (simp))
      have HT : Hid (Calls Try.prog 44 #[.agg #[.slice A n c, .int .i64 mo, .int .i64 (a : Int), .slice S sn sc, .slice P pn pc, .bool ol], .slice N q y, .int .i64 ((a - f : Nat) : Int)] w1 fun e w' => ∃ u L m z, e = .returned (.tuple #[u, .slice L m z, .int .i64 0]) ∧ HisO w' w1.heap.size u (toH ⟨ls, mo, (a : Int), sl, pl, ol⟩ now (a - f)) ∧ OwnI w' w1.heap.size L m z (toL ⟨ls, mo, (a : Int), sl, pl, ol⟩ now (a - f)) ∧ (L = none → z = 0) ∧ Ext w1 w' ∧ HisN w' w1.heap.size (.slice L m z) u (toH ⟨ls, mo, (a : Int), sl, pl, ol⟩ now (a - f))) := Lib.hid
        (hto_far (HV.out.ext hx1.out) (by simp only; rw [HN.out]; omega) (HNow.out.ext hx1.out) hN (by omega) (by simp only; rw [HN.out]; omega))
      clear HG HGd HX hfin
      rcases hkc with hk1 | hk1
      · obtain rfl : f = 1 := by have := HF2.out; omega
        rcases hk1 with rfl | rfl
        all_goals
          have hbi : (1 : Int) ≤ a := by omega
          rw [show (((a - 1 : Nat) : Nat) : Int) = (a : Int) - 1 by omega] at HT
          go_wp2_with fail
          refine HT.out.mono ?_
          rintro e w2 ⟨u, L, m, z, rfl, hO, hLi, hL0, he2, hFN⟩
          obtain ⟨O', n', c', S', sn', sc', P', pn', pc', rfl, hOr⟩ := hO
          have B62 := Lib.hid (Blk.ext B6.out he2)
          obtain ⟨d0, d1, d2, d3, d4, d5⟩ := cells6 B62.out
          obtain ⟨f0, f1, f2, f3, f4, f5⟩ := frozen6 B62.out
          have hlt1 : w.heap.size + 1 < w1.heap.size := by omega
          have HO6 := Lib.hid (st6_his (show HisO w2 w1.heap.size _ _ from ⟨O', n', c', S', sn', sc', P', pn', pc', rfl, hOr⟩) hlt1 (.slice O' n' c') (.int .i64 mo) (.int .i64 ((a - 1 : Nat) : Int)) (.slice S' sn' sc') (.slice P' pn' pc') (.bool ol))
          have HL6 := Lib.hid (st6_own hLi hlt1 (.slice O' n' c') (.int .i64 mo) (.int .i64 ((a - 1 : Nat) : Int)) (.slice S' sn' sc') (.slice P' pn' pc') (.bool ol))
          have HF6 := Lib.hid (st6_hisN hFN hlt1 (.slice O' n' c') (.int .i64 mo) (.int .i64 ((a - 1 : Nat) : Int)) (.slice S' sn' sc') (.slice P' pn' pc') (.bool ol))
          have HX6 := Lib.hid (st6_ext (hx1.out.trans he2) (show w.heap.size ≤ w.heap.size + 1 by omega) (.slice O' n' c') (.int .i64 mo) (.int .i64 ((a - 1 : Nat) : Int)) (.slice S' sn' sc') (.slice P' pn' pc') (.bool ol))
          have hf6 := Lib.hid (st6_blk B62.out (.slice O' n' c') (.int .i64 mo) (.int .i64 ((a - 1 : Nat) : Int)) (.slice S' sn' sc') (.slice P' pn' pc') (.bool ol))
          have HL0 := Lib.hid hL0
          unfold st6 at HO6 HL6 HX6 hf6 HF6
          clear hOr hLi hL0 he2 HT hFN
          unfold hisC
          simp only [toH]
          go_wp2_with fail
          refine bodyPost_ret (v := .tuple #[.agg (hisC O' n' c' mo ((a - 1 : Nat) : Int) S' sn' sc' P' pn' pc' ol), .slice L m z, .int .i64 0]) ?_ rfl ⟨HX6.out, .inl ⟨hok.out, _, L, m, z, rfl, ?_, ?_, HL0.out, ?_⟩⟩
          · exact results_row_tmp2 rfl _ _ (w.heap.size + 1) 55 _ _ _ _ _ rfl rfl rfl hf6.out Try.underlying55 rfl (hist_size rfl)
          · rw [HTN.out]
            exact HO6.out.lower (by omega)
          · rw [HTN.out]
            exact Own.lower HL6.out (by omega)
          · rw [HTN.out]
            exact HF6.out.lower (by omega)
      · have hkf : Hid (k = (f : Int)) := Lib.hid (by have := HF2.out; omega)
        have hbi : k ≤ a := by have := hkf.out; omega
        rw [show (((a - f : Nat) : Nat) : Int) = (a : Int) - k by have := hkf.out; omega] at HT
        go_wp2_with fail
        refine HT.out.mono ?_
        rintro e w2 ⟨u, L, m, z, rfl, hO, hLi, hL0, he2, hFN⟩
        obtain ⟨O', n', c', S', sn', sc', P', pn', pc', rfl, hOr⟩ := hO
        have B62 := Lib.hid (Blk.ext B6.out he2)
        obtain ⟨d0, d1, d2, d3, d4, d5⟩ := cells6 B62.out
        obtain ⟨f0, f1, f2, f3, f4, f5⟩ := frozen6 B62.out
        have hlt1 : w.heap.size + 1 < w1.heap.size := by omega
        have HO6 := Lib.hid (st6_his (show HisO w2 w1.heap.size _ _ from ⟨O', n', c', S', sn', sc', P', pn', pc', rfl, hOr⟩) hlt1 (.slice O' n' c') (.int .i64 mo) (.int .i64 ((a - f : Nat) : Int)) (.slice S' sn' sc') (.slice P' pn' pc') (.bool ol))
        have HL6 := Lib.hid (st6_own hLi hlt1 (.slice O' n' c') (.int .i64 mo) (.int .i64 ((a - f : Nat) : Int)) (.slice S' sn' sc') (.slice P' pn' pc') (.bool ol))
        have HF6 := Lib.hid (st6_hisN hFN hlt1 (.slice O' n' c') (.int .i64 mo) (.int .i64 ((a - f : Nat) : Int)) (.slice S' sn' sc') (.slice P' pn' pc') (.bool ol))
        have HX6 := Lib.hid (st6_ext (hx1.out.trans he2) (show w.heap.size ≤ w.heap.size + 1 by omega) (.slice O' n' c') (.int .i64 mo) (.int .i64 ((a - f : Nat) : Int)) (.slice S' sn' sc') (.slice P' pn' pc') (.bool ol))
        have hf6 := Lib.hid (st6_blk B62.out (.slice O' n' c') (.int .i64 mo) (.int .i64 ((a - f : Nat) : Int)) (.slice S' sn' sc') (.slice P' pn' pc') (.bool ol))
        have HL0 := Lib.hid hL0
        unfold st6 at HO6 HL6 HX6 hf6 HF6
        clear hOr hLi hL0 he2 HT hFN
        unfold hisC
        simp only [toH]
        go_wp2_with fail
        refine bodyPost_ret (v := .tuple #[.agg (hisC O' n' c' mo ((a - f : Nat) : Int) S' sn' sc' P' pn' pc' ol), .slice L m z, .int .i64 0]) ?_ rfl ⟨HX6.out, .inl ⟨hok.out, _, L, m, z, rfl, ?_, ?_, HL0.out, ?_⟩⟩
        · exact results_row_tmp2 rfl _ _ (w.heap.size + 1) 55 _ _ _ _ _ rfl rfl rfl hf6.out Try.underlying55 rfl (hist_size rfl)
        · rw [HTN.out]
          exact HO6.out.lower (by omega)
        · rw [HTN.out]
          exact Own.lower HL6.out (by omega)
        · rw [HTN.out]
          exact HF6.out.lower (by omega)
  · have hxb : (x != 0) = true := by simpa using hx0
    have hno : Hid (¬ (Good ⟨ls, mo, at_, sl, pl, ol⟩ now k ∧ (farH k : Int) ≤ at_)) := Lib.hid (fun hh => hx0 (HG.out.2 hh.1))
    have hx0' := Lib.hid hx0
    clear hx0 HG
    go_wp2_with fail
    refine bodyPost_ret (v := .tuple #[.agg hisZ, .slice none 0 0, .int .i64 x]) ?_ rfl ⟨HX.out, .inr ⟨hno.out, x, rfl, hx0'.out⟩⟩
    exact results_row_tmp2 rfl _ _ (w.heap.size + 1) 55 _ _ _ _ _ rfl rfl rfl hfin.out Try.underlying55 rfl (hist_size rfl)

theorem up_ok {w : World} {v : Value} {h : Hi} {N : Option Addr} {q y : Nat} {now : List Int} {k : Int} (hv : HisV w v h) (hnow : Ints w N q y now) (hN : N = none → y = 0) :
    Calls Try.prog 28 #[v, .slice N q y, .int .i64 k] w (Goes (Good h now k ∧ (farH k : Int) ≤ h.at_) h now (h.at_.toNat - farH k) w) :=
  (up_far hv hnow hN).mono fun _ _ h => h.goes

set_option maxRecDepth 20000 in
set_option maxHeartbeats 4000000 in
theorem down_ok {w : World} {v : Value} {h : Hi} {N : Option Addr} {q y : Nat} {now : List Int} {k : Int} (hv : HisV w v h) (hnow : Ints w N q y now) (hN : N = none → y = 0) :
    Calls Try.prog 31 #[v, .slice N q y, .int .i64 k] w (Goes (Good h now k ∧ (farH k : Int) + h.at_ ≤ (h.lines.length : Int)) h now (h.at_.toNat + farH k) w) := by
  have HV := Lib.hid hv
  obtain ⟨A, n, c, S, sn, sc, P, pn, pc, rfl, hn, hnm⟩ := hv.cells
  obtain ⟨ls, mo, at_, sl, pl, ol⟩ := h
  simp only at hn ⊢
  have HN := Lib.hid hn
  have HNow := Lib.hid hnow
  have hql := Lib.hid hnow.len
  have hb0 := Lib.hid ((Blk.new w 55 (hisC A n c mo at_ S sn sc P pn pc ol)).ext (Ext.alloc _ (.cells hisZ 55)))
  have hb1 : Hid (Blk ((w.alloc (.cells (hisC A n c mo at_ S sn sc P pn pc ol) 55)).alloc (.cells hisZ 55)) (w.heap.size + 1) 55 hisZ) := Lib.hid (by
    have := Blk.new (w.alloc (.cells (hisC A n c mo at_ S sn sc P pn pc ol) 55)) 55 hisZ
    rwa [World.size_alloc] at this)
  have hx0 : Hid (Ext w ((w.alloc (.cells (hisC A n c mo at_ S sn sc P pn pc ol) 55)).alloc (.cells hisZ 55))) := Lib.hid ((Ext.alloc _ _).to_alloc _)
  have HR := Lib.hid (right_ok (k := k) (HV.out.ext hx0.out) (hnow.ext hx0.out))
  have hsz0 : Hid (w.heap.size + 2 ≤ ((w.alloc (.cells (hisC A n c mo at_ S sn sc P pn pc ol) 55)).alloc (.cells hisZ 55)).heap.size) := Lib.hid (by simp)
  unfold maxLen at hnm
  clear hv hn hnow
  unfold hisC hisZ at *
  go_enter Try.func31, Try.ntmps31
  go_wp2_with fail
  refine HR.out.mono ?_
  rintro e w1 ⟨x, rfl, hgd, he1⟩
  have hx1 := Lib.hid (hx0.out.trans he1)
  have B3 := Lib.hid (Blk.ext hb0.out he1)
  have B6 := Lib.hid (Blk.ext hb1.out he1)
  have hsz1 : w.heap.size + 2 ≤ w1.heap.size := Nat.le_trans hsz0.out he1.hsize
  have HG := Lib.hid hgd
  obtain ⟨k0, k1, k2, k3, k4, k5⟩ := cells6 B3.out
  obtain ⟨d0, d1, d2, d3, d4, d5⟩ := cells6 B6.out
  obtain ⟨f0, f1, f2, f3, f4, f5⟩ := frozen6 B6.out
  have HX := Lib.hid (st6_ext hx1.out (show w.heap.size ≤ w.heap.size + 1 by omega) (.slice none 0 0) (.int .i64 0) (.int .i64 0) (.slice none 0 0) (.slice none 0 0) (.bool false))
  have hfin := Lib.hid (st6_blk B6.out (.slice none 0 0) (.int .i64 0) (.int .i64 0) (.slice none 0 0) (.slice none 0 0) (.bool false))
  unfold st6 at HX hfin
  clear HR hb0 hb1 hx0 he1 hgd
  by_cases hx0 : x = 0
  · subst hx0
    have hg := HG.out.1 rfl
    obtain ⟨g1, _, g3, g4, g5⟩ := hg
    unfold Hi.bad at g1
    simp only at g1
    rw [HN.out] at g1
    rw [hql.out] at g3
    obtain ⟨a, rfl⟩ : ∃ a : Nat, at_ = a := ⟨at_.toNat, by omega⟩
    have ha : a ≤ n := by omega
    have hn50 : n ≤ 50 := by omega
    have HGd := Lib.hid (HG.out.1 rfl)
    clear g1
    obtain ⟨f, hf1, hf2, hf3⟩ : ∃ f : Nat, farH k = f ∧ max 1 k = (f : Int) ∧ f ≤ 999 := ⟨farH k, rfl, by unfold farH; omega, by unfold farH; omega⟩
    have HF1 := Lib.hid hf1
    have HF2 := Lib.hid hf2
    clear hf1 hf2
    have hkc : (k = 0 ∨ k = 1) ∨ 1 < k := by omega
    by_cases hfa : n < a + f
    · have hno : Hid (¬ (Good ⟨ls, mo, (a : Int), sl, pl, ol⟩ now k ∧ (farH k : Int) + (a : Int) ≤ (ls.length : Int))) := Lib.hid (fun hh => by have h2 := hh.2; have h3 := HF1.out; have h4 := HN.out; omega)
      clear HG HGd
      rcases hkc with hk1 | hk1
      · obtain rfl : f = 1 := by have := HF2.out; omega
        rcases hk1 with rfl | rfl
        all_goals
          have hbi : (n : Int) - a < 1 := by omega
          go_wp2_with fail
          refine bodyPost_ret (v := .tuple #[.agg hisZ, .slice none 0 0, .int .i64 5]) ?_ rfl ⟨HX.out, .inr ⟨hno.out, 5, rfl, by omega⟩⟩
          exact results_row_tmp2 rfl _ _ (w.heap.size + 1) 55 _ _ _ _ _ rfl rfl rfl hfin.out Try.underlying55 rfl (hist_size rfl)
      · have hkf : Hid (k = (f : Int)) := Lib.hid (by have := HF2.out; omega)
        have hbi : (n : Int) - a < k := by have := hkf.out; omega
        go_wp2_with fail
        refine bodyPost_ret (v := .tuple #[.agg hisZ, .slice none 0 0, .int .i64 5]) ?_ rfl ⟨HX.out, .inr ⟨hno.out, 5, rfl, by omega⟩⟩
        exact results_row_tmp2 rfl _ _ (w.heap.size + 1) 55 _ _ _ _ _ rfl rfl rfl hfin.out Try.underlying55 rfl (hist_size rfl)
    · have hok : Hid (Good ⟨ls, mo, (a : Int), sl, pl, ol⟩ now k ∧ (farH k : Int) + (a : Int) ≤ (ls.length : Int)) := Lib.hid ⟨HGd.out, by have h3 := HF1.out; have h4 := HN.out; omega⟩
      have HTN : Hid (((a : Int).toNat + farH k) = a + f) := Lib.hid (by have h3 := HF1.out; simp only [h3]; first | rfl | (simp))
      have HT : Hid (Calls Try.prog 44 #[.agg #[.slice A n c, .int .i64 mo, .int .i64 (a : Int), .slice S sn sc, .slice P pn pc, .bool ol], .slice N q y, .int .i64 ((a + f : Nat) : Int)] w1 fun e w' => ∃ u L m z, e = .returned (.tuple #[u, .slice L m z, .int .i64 0]) ∧ HisO w' w1.heap.size u (toH ⟨ls, mo, (a : Int), sl, pl, ol⟩ now (a + f)) ∧ OwnI w' w1.heap.size L m z (toL ⟨ls, mo, (a : Int), sl, pl, ol⟩ now (a + f)) ∧ (L = none → z = 0) ∧ Ext w1 w') := Lib.hid
        (hto_ok (HV.out.ext hx1.out) (by simp only; rw [HN.out]; omega) (HNow.out.ext hx1.out) hN (by omega) (by simp only; rw [HN.out]; omega))
      clear HG HGd HX hfin
      rcases hkc with hk1 | hk1
      · obtain rfl : f = 1 := by have := HF2.out; omega
        rcases hk1 with rfl | rfl
        all_goals
          have hbi : (1 : Int) ≤ (n : Int) - a := by omega
          rw [show (((a + 1 : Nat) : Nat) : Int) = (a : Int) + 1 by omega] at HT
          go_wp2_with fail
          refine HT.out.mono ?_
          rintro e w2 ⟨u, L, m, z, rfl, hO, hLi, hL0, he2⟩
          obtain ⟨O', n', c', S', sn', sc', P', pn', pc', rfl, hOr⟩ := hO
          have B62 := Lib.hid (Blk.ext B6.out he2)
          obtain ⟨d0, d1, d2, d3, d4, d5⟩ := cells6 B62.out
          obtain ⟨f0, f1, f2, f3, f4, f5⟩ := frozen6 B62.out
          have hlt1 : w.heap.size + 1 < w1.heap.size := by omega
          have HO6 := Lib.hid (st6_his (show HisO w2 w1.heap.size _ _ from ⟨O', n', c', S', sn', sc', P', pn', pc', rfl, hOr⟩) hlt1 (.slice O' n' c') (.int .i64 mo) (.int .i64 ((a + 1 : Nat) : Int)) (.slice S' sn' sc') (.slice P' pn' pc') (.bool ol))
          have HL6 := Lib.hid (st6_own hLi hlt1 (.slice O' n' c') (.int .i64 mo) (.int .i64 ((a + 1 : Nat) : Int)) (.slice S' sn' sc') (.slice P' pn' pc') (.bool ol))
          have HX6 := Lib.hid (st6_ext (hx1.out.trans he2) (show w.heap.size ≤ w.heap.size + 1 by omega) (.slice O' n' c') (.int .i64 mo) (.int .i64 ((a + 1 : Nat) : Int)) (.slice S' sn' sc') (.slice P' pn' pc') (.bool ol))
          have hf6 := Lib.hid (st6_blk B62.out (.slice O' n' c') (.int .i64 mo) (.int .i64 ((a + 1 : Nat) : Int)) (.slice S' sn' sc') (.slice P' pn' pc') (.bool ol))
          have HL0 := Lib.hid hL0
          unfold st6 at HO6 HL6 HX6 hf6
          clear hOr hLi hL0 he2 HT
          unfold hisC
          simp only [toH]
          go_wp2_with fail
          refine bodyPost_ret (v := .tuple #[.agg (hisC O' n' c' mo ((a + 1 : Nat) : Int) S' sn' sc' P' pn' pc' ol), .slice L m z, .int .i64 0]) ?_ rfl ⟨HX6.out, .inl ⟨hok.out, _, L, m, z, rfl, ?_, ?_, HL0.out⟩⟩
          · exact results_row_tmp2 rfl _ _ (w.heap.size + 1) 55 _ _ _ _ _ rfl rfl rfl hf6.out Try.underlying55 rfl (hist_size rfl)
          · rw [HTN.out]
            exact HO6.out.lower (by omega)
          · rw [HTN.out]
            exact Own.lower HL6.out (by omega)
      · have hkf : Hid (k = (f : Int)) := Lib.hid (by have := HF2.out; omega)
        have hbi : k ≤ (n : Int) - a := by have := hkf.out; omega
        rw [show (((a + f : Nat) : Nat) : Int) = (a : Int) + k by have := hkf.out; omega] at HT
        go_wp2_with fail
        refine HT.out.mono ?_
        rintro e w2 ⟨u, L, m, z, rfl, hO, hLi, hL0, he2⟩
        obtain ⟨O', n', c', S', sn', sc', P', pn', pc', rfl, hOr⟩ := hO
        have B62 := Lib.hid (Blk.ext B6.out he2)
        obtain ⟨d0, d1, d2, d3, d4, d5⟩ := cells6 B62.out
        obtain ⟨f0, f1, f2, f3, f4, f5⟩ := frozen6 B62.out
        have hlt1 : w.heap.size + 1 < w1.heap.size := by omega
        have HO6 := Lib.hid (st6_his (show HisO w2 w1.heap.size _ _ from ⟨O', n', c', S', sn', sc', P', pn', pc', rfl, hOr⟩) hlt1 (.slice O' n' c') (.int .i64 mo) (.int .i64 ((a + f : Nat) : Int)) (.slice S' sn' sc') (.slice P' pn' pc') (.bool ol))
        have HL6 := Lib.hid (st6_own hLi hlt1 (.slice O' n' c') (.int .i64 mo) (.int .i64 ((a + f : Nat) : Int)) (.slice S' sn' sc') (.slice P' pn' pc') (.bool ol))
        have HX6 := Lib.hid (st6_ext (hx1.out.trans he2) (show w.heap.size ≤ w.heap.size + 1 by omega) (.slice O' n' c') (.int .i64 mo) (.int .i64 ((a + f : Nat) : Int)) (.slice S' sn' sc') (.slice P' pn' pc') (.bool ol))
        have hf6 := Lib.hid (st6_blk B62.out (.slice O' n' c') (.int .i64 mo) (.int .i64 ((a + f : Nat) : Int)) (.slice S' sn' sc') (.slice P' pn' pc') (.bool ol))
        have HL0 := Lib.hid hL0
        unfold st6 at HO6 HL6 HX6 hf6
        clear hOr hLi hL0 he2 HT
        unfold hisC
        simp only [toH]
        go_wp2_with fail
        refine bodyPost_ret (v := .tuple #[.agg (hisC O' n' c' mo ((a + f : Nat) : Int) S' sn' sc' P' pn' pc' ol), .slice L m z, .int .i64 0]) ?_ rfl ⟨HX6.out, .inl ⟨hok.out, _, L, m, z, rfl, ?_, ?_, HL0.out⟩⟩
        · exact results_row_tmp2 rfl _ _ (w.heap.size + 1) 55 _ _ _ _ _ rfl rfl rfl hf6.out Try.underlying55 rfl (hist_size rfl)
        · rw [HTN.out]
          exact HO6.out.lower (by omega)
        · rw [HTN.out]
          exact Own.lower HL6.out (by omega)
  · have hxb : (x != 0) = true := by simpa using hx0
    have hno : Hid (¬ (Good ⟨ls, mo, at_, sl, pl, ol⟩ now k ∧ (farH k : Int) + at_ ≤ (ls.length : Int))) := Lib.hid (fun hh => hx0 (HG.out.2 hh.1))
    have hx0' := Lib.hid hx0
    clear hx0 HG
    go_wp2_with fail
    refine bodyPost_ret (v := .tuple #[.agg hisZ, .slice none 0 0, .int .i64 x]) ?_ rfl ⟨HX.out, .inr ⟨hno.out, x, rfl, hx0'.out⟩⟩
    exact results_row_tmp2 rfl _ _ (w.heap.size + 1) 55 _ _ _ _ _ rfl rfl rfl hfin.out Try.underlying55 rfl (hist_size rfl)
end Go.Proofs.Ytbhbakejpgndmaa
