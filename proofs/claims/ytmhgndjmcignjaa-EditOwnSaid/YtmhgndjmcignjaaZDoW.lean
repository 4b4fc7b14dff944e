/-
  The doer's change at the closure of 'r': some characters give way to one and the same.
-/
import Derived.Test.YtmhgndjmcignjaaZDoC

namespace Go.Proofs.Ytmhgndjmcignjaa
open Go.RowKit
set_option linter.unusedVariables false
set_option linter.unusedSimpArgs false

/-- A list with some characters put in the place of others. -/
def fillL (l : List Int) (a k : Nat) (x : Int) : List Int := l.take a ++ List.replicate k x ++ l.drop (a + k)
set_option maxRecDepth 20000 in
set_option maxHeartbeats 1000000 in
theorem arg_ok {w : World} {g bx : Nat} {cs : Array Value} {k5 : Int} (hb : Blk w g 57 cs) (h33 : cs[33]? = some (.int .i64 k5)) (hbx : Blk w bx 55 #[.pointer (some ⟨g, 0, none⟩)]) (x : Int) :
    Calls Try.prog 43 #[.int .i64 x, .pointer (some ⟨bx, 0, none⟩)] w fun e w' => e = .returned (.int .i64 k5) ∧ w = w' := by
  have x33 : w.cell? ⟨g, 33, none⟩ = some (.int .i64 k5) := (hb.cell 33).trans h33
  have z0 : w.cell? ⟨bx, 0, none⟩ = some (.pointer (some ⟨g, 0, none⟩)) := hbx.cell 0
  clear hb h33 hbx
  go_enter Try.func43, Try.ntmps43
  go_wp2_with fail
  go_ret
  exact ⟨rfl, rfl⟩

set_option maxRecDepth 20000 in
set_option maxHeartbeats 4000000 in
theorem change_arg {w : World} {g n c a k bx : Nat} {k5 : Int} {cs : Array Value} {A : Option Addr} {l : List Int} {v34 v66 : Value} (hb : Blk w g 57 cs) (h0 : cs[0]? = some (.slice A n c)) (h1 : cs[1]? = some (.int .i64 (a : Int))) (h34 : cs[34]? = some v34) (h66 : cs[66]? = some v66) (h33 : cs[33]? = some (.int .i64 k5)) (hbx : Blk w bx 55 #[.pointer (some ⟨g, 0, none⟩)]) (hl : Ints w A n c l) (hn : n ≤ 200) (hak : a + k ≤ n) :
    Calls Try.prog 40 #[.pointer (some ⟨g, 0, none⟩), .int .i64 (k : Int), .func (.func 43) #[] #[.pointer (some ⟨bx, 0, none⟩)]] w fun e w' => (∃ u, e = .returned u) ∧ PutIs w g cs l (fillL l a k k5) w' := by
  obtain ⟨i0, hi, hz0, hz1, hz2⟩ := info_parts info_int
  have hln := hl.len
  have hnc := hl.ncap
  have x0 : w.cell? ⟨g, 0, none⟩ = some (.slice A n c) := (hb.cell 0).trans h0
  have x1 : w.cell? ⟨g, 1, none⟩ = some (.int .i64 (a : Int)) := (hb.cell 1).trans h1
  have HB := Lib.hid hb
  have HL := Lib.hid hl
  have H0 := Lib.hid h0
  have H1 := Lib.hid h1
  have H34 := Lib.hid h34
  have H66 := Lib.hid h66
  have Hln := Lib.hid hln
  have hac : a ≤ c := by omega
  have hakc : a + k ≤ c := by omega
  have hwr : IntKind.i64.wrap ((a : Int) + (k : Int)) = (a : Int) + (k : Int) := IntWalk.i64_in _ (by omega)
  obtain ⟨T2, hT2⟩ : ∃ T2, (if c = a then A else Option.map (fun x => x.add a) A) = T2 := ⟨_, rfl⟩
  obtain ⟨S, hS⟩ : ∃ S, (l.drop a).take k = S := ⟨_, rfl⟩
  have hak0 : a + k - a = k := by omega
  have HS : Hid (Ints w T2 k (c - a) S) := Lib.hid (by
    have h := hl.cut (k := a) (m := a + k) (by omega) hak
    rw [hT2, hak0, hS] at h
    exact h)
  have HSd := Lib.hid hS
  have hSl : S.length = k := by rw [← hS]; simp; omega
  obtain ⟨M, hM⟩ : ∃ M, S.map (fun _ => k5) = M := ⟨_, rfl⟩
  have HMd := Lib.hid hM
  have HMl : Hid (M.length = k) := Lib.hid (by rw [← hM]; simpa using hSl)
  have HMs : Hid (∀ i, i < k → M.take (i + 1) = M.take i ++ [k5]) := Lib.hid (fun i hi => by
    rw [← hM, List.take_succ_eq_append_getElem (by simp; omega)]
    simp)
  have HSl := Lib.hid hSl
  clear hM hSl
  have H33 := Lib.hid h33
  have HBX := Lib.hid hbx
  clear hb h0 h1 h34 h66 hl hln hS h33 hbx
  go_enter Try.func40, Try.ntmps40
  go_wp2_with fail
  go_quiet (fail)
  clear hT2 hak0 hwr x0 x1
  have HX0 := Lib.hid (Ext.drewN w nq)
  have HO0 : Hid (OwnI (w.drewN nq) w.heap.size none 0 0 (M.take 0)) := Lib.hid (OwnI.nil _ _)
  generalize w.drewN nq = wz at *
  try simp only [Nat.add_sub_cancel_left]
  go_wp2_with fail
  go_loopw [6, 28] (fun s6 s28 wx => ∃ (i d : Nat) (B : Option Addr), i ≤ k ∧ s28 = .int .i64 i ∧ s6 = .slice B i d ∧ Hid (OwnI wx w.heap.size B i d (M.take i)) ∧ Hid (Ext w wx)) (fun _ s28 _ => k - (intOf s28).toNat)
  case atStart => exact ⟨0, 0, none, by omega, rfl, rfl, HO0, HX0⟩
  case round =>
    clear HX0 HO0
    obtain ⟨i, d, B, hik, rfl, rfl, HO, HX⟩ := hrel
    by_cases hlt : i < k
    · obtain ⟨ad, e, hc⟩ := (HS.out.ext HX.out).at_ (k := i) hlt
      subst e
      have hci := hc i hlt
      have HT := Lib.hid (arg_ok (HB.out.ext HX.out) H33.out (HBX.out.ext HX.out) (gI S i))
      have HXs := HX.out.hsize
      have hown := HO.out
      have hxx := HX.out
      clear hc
      go_wp2_with fail
      refine HT.out.mono ?_
      rintro e w' ⟨rfl, rfl⟩
      clear HT
      go_wp2_with (at_builtin; refine wpList_push rfl (.tmp 32) (.tmp 36) 22 rfl w w.heap.size 3 i0 (.int .i64 0) 1 8 Try.underlying22 hi hz0 hz1 hz2 rfl (by decide) B i d _ rfl hown #[.int .i64 k5] rfl (by simp [Value.oneCell']) rfl (by unfold maxLen; omega) (by omega) hxx (Nat.le_refl _) HXs ?_)
      intro B2 d2 w2 hO2 hgr hor hx2
      have HX2 := Lib.hid hx2
      have HO2 : Hid (OwnI w2 w.heap.size B2 (i + 1) d2 (M.take (i + 1))) := Lib.hid (by rw [HMs.out i hlt]; simpa [OwnI] using hO2)
      clear hx2 hO2 hgr hor hown hxx HO HX HXs hci
      go_wp2_with fail
      go_roundw
      case rel => exact ⟨i + 1, d2, B2, by omega, by go_num, rfl, HO2, HX2⟩
      case measure => simp [intOf]; omega
    · obtain rfl : i = k := by omega
      have hMt : M.take i = M := List.take_of_length_le (by rw [HMl.out]; exact Nat.le_refl _)
      rw [hMt] at HO
      clear hMt
      have x0 : wr.cell? ⟨g, 0, none⟩ = some (.slice A n c) := HX.out.cell ((HB.out.cell 0).trans H0.out)
      have x1 : wr.cell? ⟨g, 1, none⟩ = some (.int .i64 (a : Int)) := HX.out.cell ((HB.out.cell 1).trans H1.out)
      have hwr : IntKind.i64.wrap ((a : Int) + (i : Int)) = (a : Int) + (i : Int) := IntWalk.i64_in _ (by omega)
      have hput := (put_doer (f := a) (t := a + i) ((HB.out.ext HX.out).ext (Ext.drew wr)) H0.out H34.out H66.out ((HL.out.ext HX.out).ext (Ext.drew wr)) (HO.out.ints.ext (Ext.drew wr)) (Own.nocap HO.out) (by omega) hak hn (by omega))
      rw [show ((a + i : Nat) : Int) = (a : Int) + (i : Int) by omega] at hput
      have HP := Lib.hid hput
      clear hput
      clear HO HS
      go_upto_region 6 with fail
      go_region_law (first
        | (refine step_callf rfl 45 #[.pointer (some ⟨g, 0, none⟩), .int .i64 (a : Int), .int .i64 ((a : Int) + (i : Int)), .slice B i d] rfl (by kernel_rfl) (fun v w' => PutIs wr.drew g cs l (l.take a ++ M ++ l.drop (a + i)) w') (HP.out.mono fun e w' ⟨⟨u, h1⟩, h2⟩ => ⟨u, h1, h2⟩) ?_
           rintro v w3 hput))
      all_goals
        have HPF : Hid (PutIs w g cs l (fillL l a i k5) w3) := Lib.hid (by
          obtain ⟨h1, B', q', b', O', k', z', e', h2, h3, h4, h5, h6⟩ := hput
          have he : l.take a ++ M ++ l.drop (a + i) = fillL l a i k5 := by
            unfold fillL
            have hm := HMd.out
            rw [List.map_const'] at hm
            rw [← hm, HSl.out]
          rw [he] at h3 h5
          have hle : w.heap.size ≤ wr.drew.heap.size := HX.out.hsize
          exact ⟨grows_trans (ext_grows (HX.out.trans (Ext.drew wr)) (some g)) h1, B', q', b', O', k', z', e', h2, Own.lower h3 hle, h4.lower hle, h5, h6⟩)
        clear hput
        go_wp2_with fail
        go_end0
        exact ⟨⟨_, rfl⟩, HPF.out⟩
end Go.Proofs.Ytmhgndjmcignjaa
