/-
  The doer's change, each letter turned.
-/
import Derived.Test.YtmhgndjmcignjaaZDoP
import Derived.IntWalk

namespace Go.Proofs.Ytmhgndjmcignjaa
open Go.RowKit
set_option linter.unusedVariables false
set_option linter.unusedSimpArgs false

/-- A letter turned. -/
def turnL (x : Int) : Int := if 97 ≤ x ∧ x ≤ 122 then x - 32 else if 65 ≤ x ∧ x ≤ 90 then x + 32 else x
theorem bits_low : ∀ n : Fin 26, bits .xor .i64 (97 + (n.val : Int)) 32 = 65 + (n.val : Int) := by decide +kernel
theorem bits_up : ∀ n : Fin 26, bits .xor .i64 (65 + (n.val : Int)) 32 = 97 + (n.val : Int) := by decide +kernel
theorem turn_low {x : Int} (h1 : 97 ≤ x) (h2 : x ≤ 122) : bits .xor .i64 x 32 = turnL x := by
  have h := bits_low ⟨(x - 97).toNat, by omega⟩
  rw [show (97 : Int) + (((⟨(x - 97).toNat, by omega⟩ : Fin 26).val : Nat) : Int) = x by simp; omega] at h
  rw [h]
  unfold turnL
  rw [if_pos ⟨h1, h2⟩]
  simp
  omega
theorem turn_up {x : Int} (h1 : 65 ≤ x) (h2 : x ≤ 90) : bits .xor .i64 x 32 = turnL x := by
  have h := bits_up ⟨(x - 65).toNat, by omega⟩
  rw [show (65 : Int) + (((⟨(x - 65).toNat, by omega⟩ : Fin 26).val : Nat) : Int) = x by simp; omega] at h
  rw [h]
  unfold turnL
  rw [if_neg (by omega), if_pos ⟨h1, h2⟩]
  simp
  omega
theorem turned_ok (x : Int) (w : World) : Calls Try.prog 41 #[.int .i64 x] w fun e w' => e = .returned (.int .i64 (turnL x)) ∧ w = w' := by
  go_enter Try.func41, Try.ntmps41
  go_wp2_with fail
  all_goals
    go_ret
    refine ⟨?_, rfl⟩
    first
      | (rw [turn_low (by assumption) (by assumption)]; rfl)
      | (rw [turn_up (by assumption) (by assumption)]; rfl)
      | (unfold turnL; rw [if_neg (by omega), if_neg (by omega)]; rfl)

/-- A list with some letters turned. -/
def caseL (l : List Int) (a k : Nat) : List Int := l.take a ++ ((l.drop a).take k).map turnL ++ l.drop (a + k)

set_option maxRecDepth 20000 in
set_option maxHeartbeats 4000000 in
theorem change_ok {w : World} {g n c a k : Nat} {cs : Array Value} {A : Option Addr} {l : List Int} {v34 v66 : Value} (hb : Blk w g 57 cs) (h0 : cs[0]? = some (.slice A n c)) (h1 : cs[1]? = some (.int .i64 (a : Int))) (h34 : cs[34]? = some v34) (h66 : cs[66]? = some v66) (hl : Ints w A n c l) (hn : n ≤ 200) (hak : a + k ≤ n) :
    Calls Try.prog 40 #[.pointer (some ⟨g, 0, none⟩), .int .i64 (k : Int), .func (.func 41) #[] #[]] w fun e w' => (∃ u, e = .returned u) ∧ PutIs w g cs l (caseL l a k) w' := by
  obtain ⟨i0, hi, hz0, hz1, hz2⟩ := info_parts info_int
  have hln := hl.len
  have hnc := hl.ncap
  have x0 : w.cell? ⟨g, 0, none⟩ = some (.slice A n c) := (hb.cell 0).trans h0
  have x1 : w.cell? ⟨g, 1, none⟩ = some (.int .i64 (a : Int)) := (hb.cell 1).trans h1
  have HB := Lib.hid hb
  have HL := Lib.hid hl
  have H0 := Lib.hid h0
  have H1 := Lib.hid h1
  have H34 := Lib.hid h34
  have H66 := Lib.hid h66
  have Hln := Lib.hid hln
  have hac : a ≤ c := by omega
  have hakc : a + k ≤ c := by omega
  have hwr : IntKind.i64.wrap ((a : Int) + (k : Int)) = (a : Int) + (k : Int) := IntWalk.i64_in _ (by omega)
  obtain ⟨T2, hT2⟩ : ∃ T2, (if c = a then A else Option.map (fun x => x.add a) A) = T2 := ⟨_, rfl⟩
  obtain ⟨S, hS⟩ : ∃ S, (l.drop a).take k = S := ⟨_, rfl⟩
  have hak0 : a + k - a = k := by omega
  have HS : Hid (Ints w T2 k (c - a) S) := Lib.hid (by
    have h := hl.cut (k := a) (m := a + k) (by omega) hak
    rw [hT2, hak0, hS] at h
    exact h)
  have HSd := Lib.hid hS
  have hSl : S.length = k := by rw [← hS]; simp; omega
  obtain ⟨M, hM⟩ : ∃ M, S.map turnL = M := ⟨_, rfl⟩
  have HMd := Lib.hid hM
  have HMl : Hid (M.length = k) := Lib.hid (by rw [← hM]; simpa using hSl)
  have HMs : Hid (∀ i, i < k → M.take (i + 1) = M.take i ++ [turnL (gI S i)]) := Lib.hid (fun i hi => by
    rw [← hM, List.take_succ_eq_append_getElem (by simp; omega)]
    simp [gI, hSl, hi])
  clear hM hSl
  clear hb h0 h1 h34 h66 hl hln hS
  go_enter Try.func40, Try.ntmps40
  go_wp2_with fail
  go_quiet (fail)
  clear hT2 hak0 hwr x0 x1
  have HX0 := Lib.hid (Ext.drewN w nq)
  have HO0 : Hid (OwnI (w.drewN nq) w.heap.size none 0 0 (M.take 0)) := Lib.hid (OwnI.nil _ _)
  generalize w.drewN nq = wz at *
  try simp only [Nat.add_sub_cancel_left]
  go_wp2_with fail
  go_loopw [6, 28] (fun s6 s28 wx => ∃ (i d : Nat) (B : Option Addr), i ≤ k ∧ s28 = .int .i64 i ∧ s6 = .slice B i d ∧ Hid (OwnI wx w.heap.size B i d (M.take i)) ∧ Hid (Ext w wx)) (fun _ s28 _ => k - (intOf s28).toNat)
  case atStart => exact ⟨0, 0, none, by omega, rfl, rfl, HO0, HX0⟩
  case round =>
    clear HX0 HO0
    obtain ⟨i, d, B, hik, rfl, rfl, HO, HX⟩ := hrel
    by_cases hlt : i < k
    · obtain ⟨ad, e, hc⟩ := (HS.out.ext HX.out).at_ (k := i) hlt
      subst e
      have hci := hc i hlt
      have HT := Lib.hid (turned_ok (gI S i) wr)
      have HXs := HX.out.hsize
      have hown := HO.out
      have hxx := HX.out
      clear hc
      go_wp2_with fail
      refine HT.out.mono ?_
      rintro e w' ⟨rfl, rfl⟩
      clear HT
      go_wp2_with (at_builtin; refine wpList_push rfl (.tmp 32) (.tmp 36) 22 rfl w w.heap.size 3 i0 (.int .i64 0) 1 8 Try.underlying22 hi hz0 hz1 hz2 rfl (by decide) B i d _ rfl hown #[.int .i64 (turnL (gI S i))] rfl (by simp [Value.oneCell']) rfl (by unfold maxLen; omega) (by omega) hxx (Nat.le_refl _) HXs ?_)
      intro B2 d2 w2 hO2 hgr hor hx2
      have HX2 := Lib.hid hx2
      have HO2 : Hid (OwnI w2 w.heap.size B2 (i + 1) d2 (M.take (i + 1))) := Lib.hid (by rw [HMs.out i hlt]; simpa [OwnI] using hO2)
      clear hx2 hO2 hgr hor hown hxx HO HX HXs hci
      go_wp2_with fail
      go_roundw
      case rel => exact ⟨i + 1, d2, B2, by omega, by go_num, rfl, HO2, HX2⟩
      case measure => simp [intOf]; omega
    · obtain rfl : i = k := by omega
      have hMt : M.take i = M := List.take_of_length_le (by rw [HMl.out]; exact Nat.le_refl _)
      rw [hMt] at HO
      clear hMt
      have x0 : wr.cell? ⟨g, 0, none⟩ = some (.slice A n c) := HX.out.cell ((HB.out.cell 0).trans H0.out)
      have x1 : wr.cell? ⟨g, 1, none⟩ = some (.int .i64 (a : Int)) := HX.out.cell ((HB.out.cell 1).trans H1.out)
      have hwr : IntKind.i64.wrap ((a : Int) + (i : Int)) = (a : Int) + (i : Int) := IntWalk.i64_in _ (by omega)
      have hput := (put_doer (f := a) (t := a + i) ((HB.out.ext HX.out).ext (Ext.drew wr)) H0.out H34.out H66.out ((HL.out.ext HX.out).ext (Ext.drew wr)) (HO.out.ints.ext (Ext.drew wr)) (Own.nocap HO.out) (by omega) hak hn (by omega))
      rw [show ((a + i : Nat) : Int) = (a : Int) + (i : Int) by omega] at hput
      have HP := Lib.hid hput
      clear hput
      clear HO HS
      go_upto_region 6 with fail
      go_region_law (first
        | (refine step_callf rfl 45 #[.pointer (some ⟨g, 0, none⟩), .int .i64 (a : Int), .int .i64 ((a : Int) + (i : Int)), .slice B i d] rfl (by kernel_rfl) (fun v w' => PutIs wr.drew g cs l (l.take a ++ M ++ l.drop (a + i)) w') (HP.out.mono fun e w' ⟨⟨u, h1⟩, h2⟩ => ⟨u, h1, h2⟩) ?_
           rintro v w3 hput))
      all_goals
        have HPF : Hid (PutIs w g cs l (caseL l a i) w3) := Lib.hid (by
          obtain ⟨h1, B', q', b', O', k', z', e', h2, h3, h4, h5, h6⟩ := hput
          have he : l.take a ++ M ++ l.drop (a + i) = caseL l a i := by unfold caseL; rw [HSd.out, HMd.out]
          rw [he] at h3 h5
          have hle : w.heap.size ≤ wr.drew.heap.size := HX.out.hsize
          exact ⟨grows_trans (ext_grows (HX.out.trans (Ext.drew wr)) (some g)) h1, B', q', b', O', k', z', e', h2, Own.lower h3 hle, h4.lower hle, h5, h6⟩)
        clear hput
        go_wp2_with fail
        go_end0
        exact ⟨⟨_, rfl⟩, HPF.out⟩
end Go.Proofs.Ytmhgndjmcignjaa
