/-
  The walk of UndoBack.
-/
import Derived.Test.YtbhbakejpgndmaaUndoE
import Derived.Test.YtbhbakejpgndmaaRest
namespace Go.Proofs.Ytbhbakejpgndmaa
open Go.RowKit
set_option linter.unusedVariables false
set_option linter.unusedSimpArgs false

/-- The past at a place, of all that was. -/
def pastF (ws : List Int) (lo s : Nat) : List Int := (ws.take s).drop lo
/-- The future at a place. -/
def futF (ws : List Int) (s : Nat) : List Int := (ws.drop (s + 1)).reverse

theorem past_do {ws : List Int} {j K : Nat} (hj : j < ws.length) : doF (pastF ws (j - K) j) K (gI ws j) = pastF ws (j + 1 - K) (j + 1) := by
  unfold doF pastF
  rw [List.take_succ_eq_append_getElem hj]
  have hg : gI ws j = ws[j] := by simp [gI, hj]
  rw [hg, List.length_drop, List.length_take]
  have hle : j - K ≤ (ws.take j).length := by rw [List.length_take]; omega
  rw [← List.drop_append_of_le_length hle, List.drop_drop]
  congr 1
  omega
theorem past_len {ws : List Int} {lo s : Nat} (hs : s ≤ ws.length) : (pastF ws lo s).length = s - lo := by
  unfold pastF; rw [List.length_drop, List.length_take]; omega
theorem fut_len {ws : List Int} {s : Nat} : (futF ws s).length = ws.length - (s + 1) := by unfold futF; simp
theorem past_back {ws : List Int} {lo s : Nat} (hs : s < ws.length) (hl : lo ≤ s) : (pastF ws lo (s + 1)).take (s + 1 - lo - 1) = pastF ws lo s ∧ gI (pastF ws lo (s + 1)) (s + 1 - lo - 1) = gI ws s := by
  unfold pastF
  constructor
  · rw [List.take_drop, List.take_take]
    congr 2
    omega
  · unfold gI
    rw [List.getElem?_drop, List.getElem?_take, if_pos (by omega)]
    congr 2
    omega
theorem fut_back {ws : List Int} {s : Nat} (hs : s + 1 < ws.length) : futF ws (s + 1) ++ [gI ws (s + 1)] = futF ws s := by
  unfold futF
  rw [List.drop_eq_getElem_cons hs, List.reverse_cons]
  simp [gI, hs]
theorem past_again {ws : List Int} {lo s : Nat} (hs : s < ws.length) (hl : lo ≤ s) : pastF ws lo s ++ [gI ws s] = pastF ws lo (s + 1) := by
  unfold pastF
  rw [List.take_succ_eq_append_getElem hs, List.drop_append_of_le_length (by rw [List.length_take]; omega)]
  simp [gI, hs]
theorem fut_again {ws : List Int} {s : Nat} (hs : s + 1 < ws.length) : (futF ws s).take (ws.length - (s + 1) - 1) = futF ws (s + 1) ∧ gI (futF ws s) (ws.length - (s + 1) - 1) = gI ws (s + 1) := by
  have h := fut_back hs
  have hl : (futF ws (s + 1)).length = ws.length - (s + 1) - 1 := by rw [fut_len]; omega
  rw [← h]
  constructor
  · rw [← hl, List.take_left]
  · unfold gI
    rw [List.getElem?_append_right (by omega), hl]
    simp [gI]

theorem rest_quiet (a : Int) (b : Nat) (w : World) (n : Nat) (hb : 1 ≤ b) (hb2 : b ≤ 1152921504606846976) : Calls Try.prog 13 #[.int .i64 a, .int .i64 b] (w.drewN n) fun e w'' => e = .returned (.int .i64 (restF a b)) ∧ ∃ m, w'' = w.drewN m :=
  (rest_ok a b _ hb hb2).mono fun _ _ ⟨h1, h2⟩ => ⟨h1, n, h2⟩

theorem rest_zero (a : Int) (b : Nat) (w : World) (n : Nat) (hb : 1 ≤ b) (hb2 : b ≤ 1152921504606846976) (hz : restF a b = 0) : Calls Try.prog 13 #[.int .i64 a, .int .i64 b] (w.drewN n) fun e w'' => e = .returned (.int .i64 0) ∧ ∃ m, w'' = w.drewN m :=
  (rest_quiet a b w n hb hb2).mono fun _ _ ⟨h1, h2⟩ => ⟨by rw [h1, hz]; rfl, h2⟩

set_option maxRecDepth 100000 in
set_option maxHeartbeats 8000000 in
theorem undoBack_walk {A : Option Addr} {n c : Nat} {l : List Int} {most k : Int} {w : World} (hl : Ints w A n c l) (hb : n * 8 ≤ 140737488351232) (hm : (Lit.int .i64 most).wf = true) :
    Calls Try.prog 3 #[.slice A n c, .int .i64 most, .int .i64 k] w fun e w' => e = .returned (.bool true) ∧ Ext w w' := by
  obtain ⟨i0, hi, hz0, hz1, hz2⟩ := info_parts info_int
  have hnc := hl.ncap
  have hcm := hl.nmax
  have hlen := Lib.hid hl.len
  have HB := Lib.hid hb
  have hn8 : n ≤ 17592186043904 := by omega
  have hbd := bounds_i64 hm
  have HM := Lib.hid hm
  unfold maxLen at hcm
  clear hb hm
  have hD0 := Lib.hid (do_ok (A := none) (n := 0) (c := 0) (B := none) (m := 0) (d := 0) (p := []) (f := []) (now := 1) (most := 3) (w := w) ⟨Ints.none_ w, Ints.none_ w, fun _ => rfl, fun _ => rfl⟩ (by omega) (by decide))
  go_enter Try.func3, Try.ntmps3
  have hi' := Lib.hid hi
  clear hi
  go_wp2_with fail
  refine hD0.out.mono ?_
  rintro e w1 ⟨A1, n1, c1, rfl, hH, he1⟩
  have hn1 : n1 = 1 := by have := hH.hp.ints.len; rw [← this]; decide
  subst hn1
  have hD1 := Lib.hid (back_ok (now := 2) hH.v (by omega) (by omega) (by omega))
  clear hD0
  go_wp2_with fail
  refine hD1.out.mono ?_
  rintro e w2 ⟨A2, c2, B2, d2, rfl, hH2, he2⟩
  have hg : gI (doF [] (max (3 : Int) 0).toNat 1) (1 - 1) = 1 := by decide
  rw [hg]
  have hxa := he1.trans he2
  clear hD1 hH hH2 hg he1 he2
  have hx1 := hxa.trans (Ext.alloc w2 (.cells #[.slice A2 0 c2, .slice B2 1 d2] 24))
  go_wp2_with fail
  have hxW : Ext w ((w2.alloc (.cells #[.slice A2 0 c2, .slice B2 1 d2] 24)).alloc (.cells #[.slice none 0 0, .slice none 0 0] 24)) := hx1.trans (Ext.alloc _ _)
  have hbW := hist_new w2 (.slice A2 0 c2) (.slice B2 1 d2)
  have hg0 : w.heap.size ≤ w2.heap.size + 1 := Nat.le_succ_of_le hxa.hsize
  revert hxW hbW hg0
  generalize (w2.alloc (.cells #[.slice A2 0 c2, .slice B2 1 d2] 24)).alloc (.cells #[.slice none 0 0, .slice none 0 0] 24) = W
  generalize w2.heap.size + 1 = g
  intro hxW hbW hg0
  clear hx1 hxa
  obtain ⟨ws, hws⟩ : ∃ ws : List Int, ws = 0 :: l := ⟨_, rfl⟩
  have HW : Hid (ws.length = n + 1 ∧ gI ws 0 = 0 ∧ ∀ j, gI ws (j + 1) = gI l j) := Lib.hid ⟨by rw [hws]; simp [hlen.out], by rw [hws]; rfl, fun j => by rw [hws]; simp [gI]⟩
  have HWS := Lib.hid hws
  clear hws
  obtain ⟨K, hK⟩ : ∃ K : Nat, K = (max most 0).toNat := ⟨_, rfl⟩
  have HK := Lib.hid hK
  clear hK
  go_wp2_with fail
  go_loopw [11, 42] (fun v i wr => ∃ (j : Nat) (A' : Option Addr) (n' c' : Nat), j ≤ n ∧ i = .int .i64 j ∧ v = .int .i64 (gI ws j) ∧ Blk wr g 24 #[.slice A' n' c', .slice none 0 0] ∧ HistV wr A' n' c' none 0 0 (pastF ws (j - K) j) [] ∧ Ext w wr) (fun _ i _ => n - (intOf i).toNat)
  case atStart => exact ⟨0, none, 0, 0, by omega, rfl, by rw [HW.out.2.1], hbW, ⟨by
    have : pastF ws (0 - K) 0 = [] := by unfold pastF; simp
    rw [this]; exact Ints.none_ _, Ints.none_ _, fun _ => rfl, fun _ => rfl⟩, hxW⟩
  case round =>
    clear hbW hxW
    obtain ⟨j, A', n', c', hj, rfl, rfl, hb, hH, he⟩ := hrel
    have c0 := hb.cell 0
    have c1 := hb.cell 1
    have f0 := hb.frozen 0
    have f1 := hb.frozen 1
    simp only [List.getElem?_toArray, List.getElem?_cons_zero, List.getElem?_cons_succ] at c0 c1
    have hn' : n' = j - (j - K) := by
      have h1 := hH.hp.len
      rw [past_len (by rw [HW.out.1]; omega)] at h1
      exact h1.symm
    by_cases hlt : j < n
    · obtain ⟨a1, rfl, hc1⟩ := hl.at_ hlt
      have d1 := he.cell (hc1 j hlt)
      have HD := Lib.hid (do_ok (now := gI ws j) (most := most) hH (by omega) HM.out)
      have HP : Hid (doF (pastF ws (j - K) j) (max most 0).toNat (gI ws j) = pastF ws (j + 1 - K) (j + 1)) := by
        show _ = _
        rw [← HK.out]
        exact past_do (by rw [HW.out.1]; omega)
      clear hc1 hn'
      go_wp2_with fail
      refine HD.out.mono ?_
      rintro e w3 ⟨A3, n3, c3, rfl, hH3, he3⟩
      have hb3 := hb.ext he3
      have hgl := hb.lt
      clear c0 c1 f0 f1 d1 HD hb hH
      have c0 := hb3.cell 0
      have c1 := hb3.cell 1
      have f0 := hb3.frozen 0
      have f1 := hb3.frozen 1
      simp only [List.getElem?_toArray, List.getElem?_cons_zero, List.getElem?_cons_succ] at c0 c1
      rw [HP.out] at hH3
      have hH4 := hH3.setCell (a := ⟨g, 0, none⟩) hgl (.slice A3 n3 c3)
      have hb4 : Blk (w3.setCell ⟨g, 0, none⟩ (.slice A3 n3 c3)) g 24 #[.slice A3 n3 c3, .slice none 0 0] := by
        simpa using hb3.set_ 0 (.slice A3 n3 c3)
      have he4 : Ext w (w3.setCell ⟨g, 0, none⟩ (.slice A3 n3 c3)) := (he.trans he3).setCell hg0 _
      have hH5 := hH4.setCell (a := ⟨g, 1, none⟩) hgl (.slice none 0 0)
      have hb5 : Blk ((w3.setCell ⟨g, 0, none⟩ (.slice A3 n3 c3)).setCell ⟨g, 1, none⟩ (.slice none 0 0)) g 24 #[.slice A3 n3 c3, .slice none 0 0] := by
        simpa using hb4.set_ 1 (.slice none 0 0)
      have he5 : Ext w ((w3.setCell ⟨g, 0, none⟩ (.slice A3 n3 c3)).setCell ⟨g, 1, none⟩ (.slice none 0 0)) := he4.setCell hg0 _
      have HV : Hid (HistV _ A3 n3 c3 none 0 0 (pastF ws (j + 1 - K) (j + 1)) [] ∧ HistV _ A3 n3 c3 none 0 0 (pastF ws (j + 1 - K) (j + 1)) []) := Lib.hid ⟨hH4.v, hH5.v⟩
      have HJ := Lib.hid (HW.out.2.2 j)
      clear hH3 hH4 hH5 hb3
      go_wp2_with fail
      go_roundw
      case rel => first
        | exact ⟨j + 1, A3, n3, c3, by omega, by go_num, by rw [HJ.out], hb4, HV.out.1, he4⟩
        | exact ⟨j + 1, A3, n3, c3, by omega, by go_num, by rw [HJ.out], hb5, HV.out.2, he5⟩
      case measure => simp [intOf]; omega
    · obtain rfl : j = n := by omega
      have hown0 : Own (wr.alloc (.cells #[.int .i64 0] 3)) wr.heap.size 3 1 (some ⟨wr.heap.size, 0, none⟩) 1 1 [.int .i64 0] :=
        ⟨rfl, .inr ⟨wr.heap.size, 1, #[.int .i64 0], rfl, Nat.le_refl _, heap_alloc_new wr _, Nat.le_refl _, by unfold maxLen; omega, rfl, rfl⟩⟩
      have hxl := Ext.alloc wr (.cells #[.int .i64 0] 3)
      have hll := hl.ext (he.trans hxl)
      obtain ⟨e1, he1⟩ : ∃ e1 : Nat, e1 = j + 1 := ⟨_, rfl⟩
      have hw1 : IntKind.i64.wrap ((j : Int) + 1) = (e1 : Int) := by rw [IntWalk.i64_in _ (by omega)]; omega
      have hr1 : Hid (restF k e1 < j + 1) := Lib.hid (by rw [← he1]; exact restF_lt (by omega))
      have he2 : 1 ≤ e1 ∧ e1 ≤ 1152921504606846976 := by omega
      have HN' : Hid (n' = j - (j - K)) := Lib.hid hn'
      have HI := hi'
      clear he1 hl hlt
      have hq : ((n' : Int) ≤ most ∧ 0 < most) ∨ (n' = 0 ∧ most < 0) ∨ (n' = 0 ∧ most = 0) := by have := HK.out; omega
      clear hn'
      rcases hq with ⟨q1, q2⟩ | ⟨q1, q2⟩ | ⟨q1, q2⟩
      · go_wp2_with (at_builtin; refine wpList_app rfl (.tmp 58) (.tmp 59) 22 rfl wr wr.heap.size 3 i0 (.int .i64 0) 1 8 Try.underlying22 HI.out hz0 hz1 hz2 rfl (by decide) _ 1 1 [.int .i64 0] rfl hown0 A j c _ rfl hll ?_ ?_ ?_ hxl (Nat.le_refl _) hxl.hsize ?_)
        · exact hll.one
        · have := HB.out; unfold maxLen; omega
        · have := HB.out; omega
        · intro A4 c4 w4 hown4 hgr hor hx4
          clear hgr hor
          have hO : OwnI w4 wr.heap.size A4 (1 + j) c4 ws := by rw [HWS.out]; simpa [OwnI] using hown4
          clear hown4 hown0 hxl hll
          have hb4 := hb.ext hx4
          have c0 := hb4.cell 0
          have c1 := hb4.cell 1
          simp only [List.getElem?_toArray, List.getElem?_cons_zero, List.getElem?_cons_succ] at c0 c1
          by_cases hr : restF k e1 ≤ n'
          · go_wp2_with fail
            go_quiet ((go_at_call 13; exact rest_quiet _ _ _ _ he2.1 he2.2))
            go_wp2_with fail
            have hbX := hb4.ext (Ext.drewN w4 nq)
            have hHX := (hH.ext hx4).ext (Ext.drewN w4 nq)
            have hOX := hO.ext (Ext.drewN w4 nq)
            have heX := (he.trans hx4).trans (Ext.drewN w4 nq)
            have hgb := hb.lt
            obtain ⟨a4, rfl, _⟩ := hO.ints.at_ (k := 0) (by omega)
            have hall := And.intro hbX (And.intro hHX (And.intro hOX (And.intro heX hgb)))
            clear hbX hHX hOX heX hgb
            revert hall
            generalize w4.drewN nq = X0
            generalize wr.heap.size = b0
            rintro ⟨hbX, hHX, hOX, heX, hgb⟩
            clear c0 c1 hb4 hO hx4 f0 f1 hb hH he HI hw1
            revert hr
            generalize restF k e1 = q
            intro hr
            have HQ : Hid (q ≤ n' ∧ n' = j - (j - K)) := Lib.hid ⟨hr, HN'.out⟩
            have HFL : Hid (futF ws j = []) := Lib.hid (List.eq_nil_of_length_eq_zero (by rw [fut_len, HW.out.1]; omega))
            clear hr q1 q2
            go_loopw [11, 71] (fun v i wr2 => ∃ (t s : Nat) (A' : Option Addr) (n9 c9 : Nat) (B' : Option Addr) (m' d' : Nat), t ≤ q ∧ s + t = j ∧ i = .int .i64 t ∧ v = .int .i64 (gI ws s) ∧ Blk wr2 g 24 #[.slice A' n9 c9, .slice B' m' d'] ∧ HistV wr2 A' n9 c9 B' m' d' (pastF ws (j - K) s) (futF ws s) ∧ OwnI wr2 b0 (some a4) (1 + j) c4 ws ∧ Ext w wr2) (fun _ i _ => q - (intOf i).toNat)
            case atStart => exact ⟨0, j, _, _, _, _, _, _, by omega, by omega, rfl, rfl, hbX, by rw [HFL.out]; exact hHX, hOX, heX⟩
            case round =>
              clear hbX hHX hOX heX
              obtain ⟨t, s, A', n2, c', B', m', d', ht, hst, rfl, rfl, hb, hH, hO, he⟩ := hrel
              have c0 := hb.cell 0
              have c1 := hb.cell 1
              have f0 := hb.frozen 0
              have f1 := hb.frozen 1
              simp only [List.getElem?_toArray, List.getElem?_cons_zero, List.getElem?_cons_succ] at c0 c1
              have hn2 : n2 = s - (j - K) := by
                have h1 := hH.hp.len
                rw [past_len (by rw [HW.out.1]; omega)] at h1
                exact h1.symm
              have hm2 : m' = j - s := by
                have h1 := hH.hf.len
                rw [fut_len, HW.out.1] at h1
                omega
              by_cases hlt : t < q
              · have hQ := HQ.out
                obtain ⟨x, rfl⟩ : ∃ x, s = x + 1 := ⟨s - 1, by omega⟩
                have hD := Lib.hid (back_ok (now := gI ws (x + 1)) hH (by omega) (by have := HB.out; omega) (by have := HB.out; omega))
                have HP := Lib.hid (past_back (ws := ws) (lo := j - K) (s := x) (by rw [HW.out.1]; omega) (by omega))
                have HF := Lib.hid (fut_back (ws := ws) (s := x) (by rw [HW.out.1]; omega))
                subst hn2
                clear hQ hm2
                go_wp2_with fail
                refine hD.out.mono ?_
                rintro e w5 ⟨A5, c5, B5, d5, rfl, hH5, he5⟩
                rw [HP.out.1, HF.out] at hH5
                rw [HP.out.2]
                have hb5 := hb.ext he5
                have hO5 := hO.ext he5
                have hgl := hb.lt
                have hgg : g < wr.heap.size := hgl
                clear c0 c1 f0 f1 hD hb hO hH
                have c0 := hb5.cell 0
                have c1 := hb5.cell 1
                have f0 := hb5.frozen 0
                have f1 := hb5.frozen 1
                simp only [List.getElem?_toArray, List.getElem?_cons_zero, List.getElem?_cons_succ] at c0 c1
                have HST : Hid (x + 1 + t = j) := Lib.hid hst
                revert hH5
                generalize hn3 : x + 1 - (j - K) - 1 = n3
                intro hH5
                clear hn3
                have hHY := (hH5.setCell (a := ⟨g, 0, none⟩) hgg (.slice A5 n3 c5)).setCell (a := ⟨g, 1, none⟩) hgg (.slice B5 (m' + 1) d5)
                have hbY : Blk ((w5.setCell ⟨g, 0, none⟩ (.slice A5 n3 c5)).setCell ⟨g, 1, none⟩ (.slice B5 (m' + 1) d5)) g 24 #[.slice A5 n3 c5, .slice B5 (m' + 1) d5] := by
                  simpa using (hb5.set_ 0 (.slice A5 n3 c5)).set_ 1 (.slice B5 (m' + 1) d5)
                have hOY : OwnI ((w5.setCell ⟨g, 0, none⟩ (.slice A5 n3 c5)).setCell ⟨g, 1, none⟩ (.slice B5 (m' + 1) d5)) b0 (some a4) (1 + j) c4 ws := Own.setCell (Own.setCell hO5 hgb _) hgb _
                have heY : Ext w ((w5.setCell ⟨g, 0, none⟩ (.slice A5 n3 c5)).setCell ⟨g, 1, none⟩ (.slice B5 (m' + 1) d5)) := ((he.trans he5).setCell hg0 _).setCell hg0 _
                obtain ⟨a5, ea, hc5⟩ := hOY.ints.at_ (k := x) (by omega)
                injection ea with ea
                subst ea
                have d1 := hc5 x (by omega)
                have d2' : ((w5.setCell ⟨g, 0, none⟩ (.slice A5 n3 c5)).setCell ⟨g, 1, none⟩ (.slice B5 (m' + 1) d5)).cell? (a4.add (1 + j - 2 - t)) = some (.int .i64 (gI ws x)) := by
                  rw [show 1 + j - 2 - t = x by omega]; exact d1
                have i1 : (t : Int) + 1 ≤ j := by omega
                clear hc5 hst d1 hH5 hO5
                go_wp2_with fail
                exact ⟨⟨t + 1, x, A5, n3, c5, B5, m' + 1, d5, by omega, by have := HST.out; omega, by go_num, rfl, hbY, hHY.v, hOY, heY⟩, by simp [intOf] <;> omega⟩
              · obtain rfl : t = q := by omega
                have hQ := HQ.out
                have HS3 : Hid (s + t = j ∧ n2 = s - (j - K) ∧ m' = j - s) := Lib.hid ⟨hst, hn2, hm2⟩
                clear c0 c1 f0 f1 hst hn2 hm2 hlt hQ HFL
                go_wp2_with fail
                go_loopw [11, 97] (fun v i wr2 => ∃ (y s : Nat) (A' : Option Addr) (n9 c9 : Nat) (B' : Option Addr) (m' d' : Nat), y ≤ t ∧ s + t = j + y ∧ i = .int .i64 y ∧ v = .int .i64 (gI ws s) ∧ Blk wr2 g 24 #[.slice A' n9 c9, .slice B' m' d'] ∧ HistV wr2 A' n9 c9 B' m' d' (pastF ws (j - K) s) (futF ws s) ∧ OwnI wr2 b0 (some a4) (1 + j) c4 ws ∧ Ext w wr2) (fun _ i _ => t - (intOf i).toNat)
                case atStart => exact ⟨0, s, _, _, _, _, _, _, by omega, by have := HS3.out; omega, rfl, rfl, hb, hH, hO, he⟩
                case round =>
                  clear hb hH hO he HS3
                  obtain ⟨y, s, A', n2, c', B', m', d', hy, hst, rfl, rfl, hb, hH, hO, he⟩ := hrel
                  have c0 := hb.cell 0
                  have c1 := hb.cell 1
                  have f0 := hb.frozen 0
                  have f1 := hb.frozen 1
                  simp only [List.getElem?_toArray, List.getElem?_cons_zero, List.getElem?_cons_succ] at c0 c1
                  have hQ := HQ.out
                  have hn2 : n2 = s - (j - K) := by
                    have h1 := hH.hp.len
                    rw [past_len (by rw [HW.out.1]; omega)] at h1
                    exact h1.symm
                  have hm2 : m' = j - s := by
                    have h1 := hH.hf.len
                    rw [fut_len, HW.out.1] at h1
                    omega
                  by_cases hlt : y < t
                  · have hD := Lib.hid (again_ok (now := gI ws s) hH (by omega) (by have := HB.out; omega) (by have := HB.out; omega))
                    have HP := Lib.hid (past_again (ws := ws) (lo := j - K) (s := s) (by rw [HW.out.1]; omega) (by omega))
                    have HF : Hid ((futF ws s).take (m' - 1) = futF ws (s + 1) ∧ gI (futF ws s) (m' - 1) = gI ws (s + 1)) := by
                      have := fut_again (ws := ws) (s := s) (by rw [HW.out.1]; omega)
                      rw [HW.out.1, show j + 1 - (s + 1) - 1 = m' - 1 by omega] at this
                      exact this
                    have HST : Hid (s + t = j + y ∧ s < j) := Lib.hid ⟨hst, by omega⟩
                    clear hQ hm2 hn2 hst
                    go_wp2_with fail
                    refine hD.out.mono ?_
                    rintro e w5 ⟨A5, c5, B5, d5, rfl, hH5, he5⟩
                    rw [HP.out, HF.out.1] at hH5
                    rw [HF.out.2]
                    have hb5 := hb.ext he5
                    have hO5 := hO.ext he5
                    have hgg : g < wr.heap.size := hb.lt
                    clear c0 c1 f0 f1 hD hb hO hH
                    have c0 := hb5.cell 0
                    have c1 := hb5.cell 1
                    have f0 := hb5.frozen 0
                    have f1 := hb5.frozen 1
                    simp only [List.getElem?_toArray, List.getElem?_cons_zero, List.getElem?_cons_succ] at c0 c1
                    revert hH5
                    generalize m' - 1 = m3
                    intro hH5
                    have hHY := (hH5.setCell (a := ⟨g, 0, none⟩) hgg (.slice A5 (n2 + 1) c5)).setCell (a := ⟨g, 1, none⟩) hgg (.slice B5 m3 d5)
                    have hbY : Blk ((w5.setCell ⟨g, 0, none⟩ (.slice A5 (n2 + 1) c5)).setCell ⟨g, 1, none⟩ (.slice B5 m3 d5)) g 24 #[.slice A5 (n2 + 1) c5, .slice B5 m3 d5] := by
                      simpa using (hb5.set_ 0 (.slice A5 (n2 + 1) c5)).set_ 1 (.slice B5 m3 d5)
                    have hOY : OwnI ((w5.setCell ⟨g, 0, none⟩ (.slice A5 (n2 + 1) c5)).setCell ⟨g, 1, none⟩ (.slice B5 m3 d5)) b0 (some a4) (1 + j) c4 ws := Own.setCell (Own.setCell hO5 hgb _) hgb _
                    have heY : Ext w ((w5.setCell ⟨g, 0, none⟩ (.slice A5 (n2 + 1) c5)).setCell ⟨g, 1, none⟩ (.slice B5 m3 d5)) := ((he.trans he5).setCell hg0 _).setCell hg0 _
                    have hst := HST.out
                    have i1 : (t : Int) ≤ j := by have := HQ.out; omega
                    obtain ⟨a5, ea, hc5⟩ := hOY.ints.at_ (k := s + 1) (by omega)
                    injection ea with ea
                    subst ea
                    have d1 := hc5 (s + 1) (by omega)
                    have d2' : ((w5.setCell ⟨g, 0, none⟩ (.slice A5 (n2 + 1) c5)).setCell ⟨g, 1, none⟩ (.slice B5 m3 d5)).cell? (a4.add (1 + j - t + y)) = some (.int .i64 (gI ws (s + 1))) := by
                      rw [show 1 + j - t + y = s + 1 by omega]; exact d1
                    have i2 : (y : Int) < t := by omega
                    clear hc5 hst d1 hH5 hO5
                    go_wp2_with fail
                    exact ⟨⟨y + 1, s + 1, A5, n2 + 1, c5, B5, m3, d5, by omega, by have := HST.out; omega, by go_num, rfl, hbY, hHY.v, hOY, heY⟩, by simp [intOf] <;> omega⟩
                  · obtain rfl : y = t := by omega
                    obtain rfl : s = j := by omega
                    obtain rfl : m' = 0 := by omega
                    obtain ⟨a5, ea, hc5⟩ := hO.ints.at_ (k := s) (by omega)
                    injection ea with ea
                    subst ea
                    have d1 := hc5 s (by omega)
                    clear hc5 hQ hn2 hm2 hst hH
                    go_wp2_with fail
                    go_ret
                    exact ⟨rfl, he⟩
          · go_wp2_with fail
            go_quiet ((go_at_call 13; exact rest_quiet _ _ _ _ he2.1 he2.2))
            go_wp2_with fail
            have hbX := hb4.ext (Ext.drewN w4 nq)
            have hHX := (hH.ext hx4).ext (Ext.drewN w4 nq)
            have hOX := hO.ext (Ext.drewN w4 nq)
            have heX := (he.trans hx4).trans (Ext.drewN w4 nq)
            have hgb := hb.lt
            obtain ⟨a4, rfl, _⟩ := hO.ints.at_ (k := 0) (by omega)
            have hall := And.intro hbX (And.intro hHX (And.intro hOX (And.intro heX hgb)))
            clear hbX hHX hOX heX hgb
            revert hall
            generalize w4.drewN nq = X0
            generalize wr.heap.size = b0
            rintro ⟨hbX, hHX, hOX, heX, hgb⟩
            clear c0 c1 hb4 hO hx4 f0 f1 hb hH he HI hw1
            have hr0 := Lib.hid hr
            clear hr
            have hr : n' ≤ n' := Nat.le_refl _
            have HQ : Hid (n' ≤ n' ∧ n' = j - (j - K)) := Lib.hid ⟨hr, HN'.out⟩
            have HFL : Hid (futF ws j = []) := Lib.hid (List.eq_nil_of_length_eq_zero (by rw [fut_len, HW.out.1]; omega))
            clear hr q1 q2
            go_loopw [11, 71] (fun v i wr2 => ∃ (t s : Nat) (A' : Option Addr) (n9 c9 : Nat) (B' : Option Addr) (m' d' : Nat), t ≤ n' ∧ s + t = j ∧ i = .int .i64 t ∧ v = .int .i64 (gI ws s) ∧ Blk wr2 g 24 #[.slice A' n9 c9, .slice B' m' d'] ∧ HistV wr2 A' n9 c9 B' m' d' (pastF ws (j - K) s) (futF ws s) ∧ OwnI wr2 b0 (some a4) (1 + j) c4 ws ∧ Ext w wr2) (fun _ i _ => n' - (intOf i).toNat)
            case atStart => exact ⟨0, j, _, _, _, _, _, _, by omega, by omega, rfl, rfl, hbX, by rw [HFL.out]; exact hHX, hOX, heX⟩
            case round =>
              clear hbX hHX hOX heX
              obtain ⟨t, s, A', n2, c', B', m', d', ht, hst, rfl, rfl, hb, hH, hO, he⟩ := hrel
              have c0 := hb.cell 0
              have c1 := hb.cell 1
              have f0 := hb.frozen 0
              have f1 := hb.frozen 1
              simp only [List.getElem?_toArray, List.getElem?_cons_zero, List.getElem?_cons_succ] at c0 c1
              have hn2 : n2 = s - (j - K) := by
                have h1 := hH.hp.len
                rw [past_len (by rw [HW.out.1]; omega)] at h1
                exact h1.symm
              have hm2 : m' = j - s := by
                have h1 := hH.hf.len
                rw [fut_len, HW.out.1] at h1
                omega
              by_cases hlt : t < n'
              · have hQ := HQ.out
                obtain ⟨x, rfl⟩ : ∃ x, s = x + 1 := ⟨s - 1, by omega⟩
                have hD := Lib.hid (back_ok (now := gI ws (x + 1)) hH (by omega) (by have := HB.out; omega) (by have := HB.out; omega))
                have HP := Lib.hid (past_back (ws := ws) (lo := j - K) (s := x) (by rw [HW.out.1]; omega) (by omega))
                have HF := Lib.hid (fut_back (ws := ws) (s := x) (by rw [HW.out.1]; omega))
                subst hn2
                clear hQ hm2
                go_wp2_with fail
                refine hD.out.mono ?_
                rintro e w5 ⟨A5, c5, B5, d5, rfl, hH5, he5⟩
                rw [HP.out.1, HF.out] at hH5
                rw [HP.out.2]
                have hb5 := hb.ext he5
                have hO5 := hO.ext he5
                have hgl := hb.lt
                have hgg : g < wr.heap.size := hgl
                clear c0 c1 f0 f1 hD hb hO hH
                have c0 := hb5.cell 0
                have c1 := hb5.cell 1
                have f0 := hb5.frozen 0
                have f1 := hb5.frozen 1
                simp only [List.getElem?_toArray, List.getElem?_cons_zero, List.getElem?_cons_succ] at c0 c1
                have HST : Hid (x + 1 + t = j) := Lib.hid hst
                revert hH5
                generalize hn3 : x + 1 - (j - K) - 1 = n3
                intro hH5
                clear hn3
                have hHY := (hH5.setCell (a := ⟨g, 0, none⟩) hgg (.slice A5 n3 c5)).setCell (a := ⟨g, 1, none⟩) hgg (.slice B5 (m' + 1) d5)
                have hbY : Blk ((w5.setCell ⟨g, 0, none⟩ (.slice A5 n3 c5)).setCell ⟨g, 1, none⟩ (.slice B5 (m' + 1) d5)) g 24 #[.slice A5 n3 c5, .slice B5 (m' + 1) d5] := by
                  simpa using (hb5.set_ 0 (.slice A5 n3 c5)).set_ 1 (.slice B5 (m' + 1) d5)
                have hOY : OwnI ((w5.setCell ⟨g, 0, none⟩ (.slice A5 n3 c5)).setCell ⟨g, 1, none⟩ (.slice B5 (m' + 1) d5)) b0 (some a4) (1 + j) c4 ws := Own.setCell (Own.setCell hO5 hgb _) hgb _
                have heY : Ext w ((w5.setCell ⟨g, 0, none⟩ (.slice A5 n3 c5)).setCell ⟨g, 1, none⟩ (.slice B5 (m' + 1) d5)) := ((he.trans he5).setCell hg0 _).setCell hg0 _
                obtain ⟨a5, ea, hc5⟩ := hOY.ints.at_ (k := x) (by omega)
                injection ea with ea
                subst ea
                have d1 := hc5 x (by omega)
                have d2' : ((w5.setCell ⟨g, 0, none⟩ (.slice A5 n3 c5)).setCell ⟨g, 1, none⟩ (.slice B5 (m' + 1) d5)).cell? (a4.add (1 + j - 2 - t)) = some (.int .i64 (gI ws x)) := by
                  rw [show 1 + j - 2 - t = x by omega]; exact d1
                have i1 : (t : Int) + 1 ≤ j := by omega
                clear hc5 hst d1 hH5 hO5
                go_wp2_with fail
                exact ⟨⟨t + 1, x, A5, n3, c5, B5, m' + 1, d5, by omega, by have := HST.out; omega, by go_num, rfl, hbY, hHY.v, hOY, heY⟩, by simp [intOf] <;> omega⟩
              · obtain rfl : t = n' := by omega
                have hQ := HQ.out
                have HS3 : Hid (s + t = j ∧ n2 = s - (j - K) ∧ m' = j - s) := Lib.hid ⟨hst, hn2, hm2⟩
                clear c0 c1 f0 f1 hst hn2 hm2 hlt hQ HFL
                go_wp2_with fail
                go_loopw [11, 97] (fun v i wr2 => ∃ (y s : Nat) (A' : Option Addr) (n9 c9 : Nat) (B' : Option Addr) (m' d' : Nat), y ≤ t ∧ s + t = j + y ∧ i = .int .i64 y ∧ v = .int .i64 (gI ws s) ∧ Blk wr2 g 24 #[.slice A' n9 c9, .slice B' m' d'] ∧ HistV wr2 A' n9 c9 B' m' d' (pastF ws (j - K) s) (futF ws s) ∧ OwnI wr2 b0 (some a4) (1 + j) c4 ws ∧ Ext w wr2) (fun _ i _ => t - (intOf i).toNat)
                case atStart => exact ⟨0, s, _, _, _, _, _, _, by omega, by have := HS3.out; omega, rfl, rfl, hb, hH, hO, he⟩
                case round =>
                  clear hb hH hO he HS3
                  obtain ⟨y, s, A', n2, c', B', m', d', hy, hst, rfl, rfl, hb, hH, hO, he⟩ := hrel
                  have c0 := hb.cell 0
                  have c1 := hb.cell 1
                  have f0 := hb.frozen 0
                  have f1 := hb.frozen 1
                  simp only [List.getElem?_toArray, List.getElem?_cons_zero, List.getElem?_cons_succ] at c0 c1
                  have hQ := HQ.out
                  have hn2 : n2 = s - (j - K) := by
                    have h1 := hH.hp.len
                    rw [past_len (by rw [HW.out.1]; omega)] at h1
                    exact h1.symm
                  have hm2 : m' = j - s := by
                    have h1 := hH.hf.len
                    rw [fut_len, HW.out.1] at h1
                    omega
                  by_cases hlt : y < t
                  · have hD := Lib.hid (again_ok (now := gI ws s) hH (by omega) (by have := HB.out; omega) (by have := HB.out; omega))
                    have HP := Lib.hid (past_again (ws := ws) (lo := j - K) (s := s) (by rw [HW.out.1]; omega) (by omega))
                    have HF : Hid ((futF ws s).take (m' - 1) = futF ws (s + 1) ∧ gI (futF ws s) (m' - 1) = gI ws (s + 1)) := by
                      have := fut_again (ws := ws) (s := s) (by rw [HW.out.1]; omega)
                      rw [HW.out.1, show j + 1 - (s + 1) - 1 = m' - 1 by omega] at this
                      exact this
                    have HST : Hid (s + t = j + y ∧ s < j) := Lib.hid ⟨hst, by omega⟩
                    clear hQ hm2 hn2 hst
                    go_wp2_with fail
                    refine hD.out.mono ?_
                    rintro e w5 ⟨A5, c5, B5, d5, rfl, hH5, he5⟩
                    rw [HP.out, HF.out.1] at hH5
                    rw [HF.out.2]
                    have hb5 := hb.ext he5
                    have hO5 := hO.ext he5
                    have hgg : g < wr.heap.size := hb.lt
                    clear c0 c1 f0 f1 hD hb hO hH
                    have c0 := hb5.cell 0
                    have c1 := hb5.cell 1
                    have f0 := hb5.frozen 0
                    have f1 := hb5.frozen 1
                    simp only [List.getElem?_toArray, List.getElem?_cons_zero, List.getElem?_cons_succ] at c0 c1
                    revert hH5
                    generalize m' - 1 = m3
                    intro hH5
                    have hHY := (hH5.setCell (a := ⟨g, 0, none⟩) hgg (.slice A5 (n2 + 1) c5)).setCell (a := ⟨g, 1, none⟩) hgg (.slice B5 m3 d5)
                    have hbY : Blk ((w5.setCell ⟨g, 0, none⟩ (.slice A5 (n2 + 1) c5)).setCell ⟨g, 1, none⟩ (.slice B5 m3 d5)) g 24 #[.slice A5 (n2 + 1) c5, .slice B5 m3 d5] := by
                      simpa using (hb5.set_ 0 (.slice A5 (n2 + 1) c5)).set_ 1 (.slice B5 m3 d5)
                    have hOY : OwnI ((w5.setCell ⟨g, 0, none⟩ (.slice A5 (n2 + 1) c5)).setCell ⟨g, 1, none⟩ (.slice B5 m3 d5)) b0 (some a4) (1 + j) c4 ws := Own.setCell (Own.setCell hO5 hgb _) hgb _
                    have heY : Ext w ((w5.setCell ⟨g, 0, none⟩ (.slice A5 (n2 + 1) c5)).setCell ⟨g, 1, none⟩ (.slice B5 m3 d5)) := ((he.trans he5).setCell hg0 _).setCell hg0 _
                    have hst := HST.out
                    have i1 : (t : Int) ≤ j := by have := HQ.out; omega
                    obtain ⟨a5, ea, hc5⟩ := hOY.ints.at_ (k := s + 1) (by omega)
                    injection ea with ea
                    subst ea
                    have d1 := hc5 (s + 1) (by omega)
                    have d2' : ((w5.setCell ⟨g, 0, none⟩ (.slice A5 (n2 + 1) c5)).setCell ⟨g, 1, none⟩ (.slice B5 m3 d5)).cell? (a4.add (1 + j - t + y)) = some (.int .i64 (gI ws (s + 1))) := by
                      rw [show 1 + j - t + y = s + 1 by omega]; exact d1
                    have i2 : (y : Int) < t := by omega
                    clear hc5 hst d1 hH5 hO5
                    go_wp2_with fail
                    exact ⟨⟨y + 1, s + 1, A5, n2 + 1, c5, B5, m3, d5, by omega, by have := HST.out; omega, by go_num, rfl, hbY, hHY.v, hOY, heY⟩, by simp [intOf] <;> omega⟩
                  · obtain rfl : y = t := by omega
                    obtain rfl : s = j := by omega
                    obtain rfl : m' = 0 := by omega
                    obtain ⟨a5, ea, hc5⟩ := hO.ints.at_ (k := s) (by omega)
                    injection ea with ea
                    subst ea
                    have d1 := hc5 s (by omega)
                    clear hc5 hQ hn2 hm2 hst hH
                    go_wp2_with fail
                    go_ret
                    exact ⟨rfl, he⟩
      · obtain rfl := q1
        go_wp2_with (at_builtin; refine wpList_app rfl (.tmp 58) (.tmp 59) 22 rfl wr wr.heap.size 3 i0 (.int .i64 0) 1 8 Try.underlying22 HI.out hz0 hz1 hz2 rfl (by decide) _ 1 1 [.int .i64 0] rfl hown0 A j c _ rfl hll ?_ ?_ ?_ hxl (Nat.le_refl _) hxl.hsize ?_)
        · exact hll.one
        · have := HB.out; unfold maxLen; omega
        · have := HB.out; omega
        · intro A4 c4 w4 hown4 hgr hor hx4
          clear hgr hor
          have hO : OwnI w4 wr.heap.size A4 (1 + j) c4 ws := by rw [HWS.out]; simpa [OwnI] using hown4
          clear hown4 hown0 hxl hll
          have hb4 := hb.ext hx4
          have c0 := hb4.cell 0
          have c1 := hb4.cell 1
          simp only [List.getElem?_toArray, List.getElem?_cons_zero, List.getElem?_cons_succ] at c0 c1
          rcases Nat.eq_zero_or_pos (restF k e1) with hr | hr
          · have HR0 : Hid (restF k e1 = 0) := Lib.hid hr
            clear hr
            go_wp2_with fail
            go_quiet ((go_at_call 13; exact rest_zero _ _ _ _ he2.1 he2.2 HR0.out))
            go_wp2_with fail
            have hbX := hb4.ext (Ext.drewN w4 nq)
            have hOX := hO.ext (Ext.drewN w4 nq)
            have heX := (he.trans hx4).trans (Ext.drewN w4 nq)
            have hall := And.intro hbX (And.intro hOX heX)
            clear hbX hOX heX
            revert hall
            generalize w4.drewN nq = X0
            rintro ⟨hbX, hOX, heX⟩
            obtain ⟨a4, rfl, hc4⟩ := hOX.ints.at_ (k := 0) (by omega)
            have d1 := hc4 j (by omega)
            clear c0 c1 hb4 hO hx4 f0 f1 hb hH he HI hw1 hc4
            have c0 := hbX.cell 0
            have c1 := hbX.cell 1
            simp only [List.getElem?_toArray, List.getElem?_cons_zero, List.getElem?_cons_succ] at c0 c1
            go_loopw [11, 71] (fun v i wr2 => i = .int .i64 0 ∧ v = .int .i64 (gI ws j) ∧ wr2 = X0) (fun _ _ _ => 0)
            case atStart => exact ⟨rfl, rfl, rfl⟩
            case round =>
              obtain ⟨rfl, rfl, hwr⟩ := hrel
              rw [hwr]
              clear hwr
              go_wp2_with fail
              go_loopw [11, 97] (fun v i wr3 => i = .int .i64 0 ∧ v = .int .i64 (gI ws j) ∧ wr3 = X0) (fun _ _ _ => 0)
              case atStart => exact ⟨rfl, rfl, rfl⟩
              case round =>
                obtain ⟨rfl, rfl, hwr⟩ := hrel
                rw [hwr]
                clear hwr
                go_wp2_with fail
                go_ret
                exact ⟨rfl, heX⟩
          · have hr3 : ¬ (restF k e1 : Int) ≤ 0 := by omega
            go_wp2_with fail
            go_quiet ((go_at_call 13; exact rest_quiet _ _ _ _ he2.1 he2.2))
            go_wp2_with fail
            have hbX := hb4.ext (Ext.drewN w4 nq)
            have hOX := hO.ext (Ext.drewN w4 nq)
            have heX := (he.trans hx4).trans (Ext.drewN w4 nq)
            have hall := And.intro hbX (And.intro hOX heX)
            clear hbX hOX heX
            revert hall
            generalize w4.drewN nq = X0
            rintro ⟨hbX, hOX, heX⟩
            obtain ⟨a4, rfl, hc4⟩ := hOX.ints.at_ (k := 0) (by omega)
            have d1 := hc4 j (by omega)
            clear c0 c1 hb4 hO hx4 f0 f1 hb hH he HI hw1 hc4
            have c0 := hbX.cell 0
            have c1 := hbX.cell 1
            simp only [List.getElem?_toArray, List.getElem?_cons_zero, List.getElem?_cons_succ] at c0 c1
            go_loopw [11, 71] (fun v i wr2 => i = .int .i64 0 ∧ v = .int .i64 (gI ws j) ∧ wr2 = X0) (fun _ _ _ => 0)
            case atStart => exact ⟨rfl, rfl, rfl⟩
            case round =>
              obtain ⟨rfl, rfl, hwr⟩ := hrel
              rw [hwr]
              clear hwr
              go_wp2_with fail
              go_loopw [11, 97] (fun v i wr3 => i = .int .i64 0 ∧ v = .int .i64 (gI ws j) ∧ wr3 = X0) (fun _ _ _ => 0)
              case atStart => exact ⟨rfl, rfl, rfl⟩
              case round =>
                obtain ⟨rfl, rfl, hwr⟩ := hrel
                rw [hwr]
                clear hwr
                go_wp2_with fail
                go_ret
                exact ⟨rfl, heX⟩
      · obtain rfl := q1
        obtain rfl := q2
        go_wp2_with (at_builtin; refine wpList_app rfl (.tmp 58) (.tmp 59) 22 rfl wr wr.heap.size 3 i0 (.int .i64 0) 1 8 Try.underlying22 HI.out hz0 hz1 hz2 rfl (by decide) _ 1 1 [.int .i64 0] rfl hown0 A j c _ rfl hll ?_ ?_ ?_ hxl (Nat.le_refl _) hxl.hsize ?_)
        · exact hll.one
        · have := HB.out; unfold maxLen; omega
        · have := HB.out; omega
        · intro A4 c4 w4 hown4 hgr hor hx4
          clear hgr hor
          have hO : OwnI w4 wr.heap.size A4 (1 + j) c4 ws := by rw [HWS.out]; simpa [OwnI] using hown4
          clear hown4 hown0 hxl hll
          have hb4 := hb.ext hx4
          have c0 := hb4.cell 0
          have c1 := hb4.cell 1
          simp only [List.getElem?_toArray, List.getElem?_cons_zero, List.getElem?_cons_succ] at c0 c1
          rcases Nat.eq_zero_or_pos (restF k e1) with hr | hr
          · have HR0 : Hid (restF k e1 = 0) := Lib.hid hr
            clear hr
            go_wp2_with fail
            go_quiet ((go_at_call 13; exact rest_zero _ _ _ _ he2.1 he2.2 HR0.out))
            go_wp2_with fail
            have hbX := hb4.ext (Ext.drewN w4 nq)
            have hOX := hO.ext (Ext.drewN w4 nq)
            have heX := (he.trans hx4).trans (Ext.drewN w4 nq)
            have hall := And.intro hbX (And.intro hOX heX)
            clear hbX hOX heX
            revert hall
            generalize w4.drewN nq = X0
            rintro ⟨hbX, hOX, heX⟩
            obtain ⟨a4, rfl, hc4⟩ := hOX.ints.at_ (k := 0) (by omega)
            have d1 := hc4 j (by omega)
            clear c0 c1 hb4 hO hx4 f0 f1 hb hH he HI hw1 hc4
            have c0 := hbX.cell 0
            have c1 := hbX.cell 1
            simp only [List.getElem?_toArray, List.getElem?_cons_zero, List.getElem?_cons_succ] at c0 c1
            go_loopw [11, 71] (fun v i wr2 => i = .int .i64 0 ∧ v = .int .i64 (gI ws j) ∧ wr2 = X0) (fun _ _ _ => 0)
            case atStart => exact ⟨rfl, rfl, rfl⟩
            case round =>
              obtain ⟨rfl, rfl, hwr⟩ := hrel
              rw [hwr]
              clear hwr
              go_wp2_with fail
              go_loopw [11, 97] (fun v i wr3 => i = .int .i64 0 ∧ v = .int .i64 (gI ws j) ∧ wr3 = X0) (fun _ _ _ => 0)
              case atStart => exact ⟨rfl, rfl, rfl⟩
              case round =>
                obtain ⟨rfl, rfl, hwr⟩ := hrel
                rw [hwr]
                clear hwr
                go_wp2_with fail
                go_ret
                exact ⟨rfl, heX⟩
          · have hr3 : ¬ (restF k e1 : Int) ≤ 0 := by omega
            go_wp2_with fail
            go_quiet ((go_at_call 13; exact rest_quiet _ _ _ _ he2.1 he2.2))
            go_wp2_with fail
            have hbX := hb4.ext (Ext.drewN w4 nq)
            have hOX := hO.ext (Ext.drewN w4 nq)
            have heX := (he.trans hx4).trans (Ext.drewN w4 nq)
            have hall := And.intro hbX (And.intro hOX heX)
            clear hbX hOX heX
            revert hall
            generalize w4.drewN nq = X0
            rintro ⟨hbX, hOX, heX⟩
            obtain ⟨a4, rfl, hc4⟩ := hOX.ints.at_ (k := 0) (by omega)
            have d1 := hc4 j (by omega)
            clear c0 c1 hb4 hO hx4 f0 f1 hb hH he HI hw1 hc4
            have c0 := hbX.cell 0
            have c1 := hbX.cell 1
            simp only [List.getElem?_toArray, List.getElem?_cons_zero, List.getElem?_cons_succ] at c0 c1
            go_loopw [11, 71] (fun v i wr2 => i = .int .i64 0 ∧ v = .int .i64 (gI ws j) ∧ wr2 = X0) (fun _ _ _ => 0)
            case atStart => exact ⟨rfl, rfl, rfl⟩
            case round =>
              obtain ⟨rfl, rfl, hwr⟩ := hrel
              rw [hwr]
              clear hwr
              go_wp2_with fail
              go_loopw [11, 97] (fun v i wr3 => i = .int .i64 0 ∧ v = .int .i64 (gI ws j) ∧ wr3 = X0) (fun _ _ _ => 0)
              case atStart => exact ⟨rfl, rfl, rfl⟩
              case round =>
                obtain ⟨rfl, rfl, hwr⟩ := hrel
                rw [hwr]
                clear hwr
                go_wp2_with fail
                go_ret
                exact ⟨rfl, heX⟩
end Go.Proofs.Ytbhbakejpgndmaa
