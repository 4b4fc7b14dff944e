/-
  All: every hit.
-/
import Derived.Test.YtdkjkcegchohfaaAbN
namespace Go.Proofs.Ytdkjkcegchohfaa
open Go.RowKit Go.Maps
set_option linter.unusedVariables false
set_option linter.unusedSimpArgs false
attribute [local go_sem] Oper.semAt_some

/-- Where the machine stands behind u. -/
noncomputable def stA (t : AC) (u : List Int) : Nat := open Classical in if h : ∃ j, j < t.N ∧ t.str j = lsuf t.isP u then Classical.choose h else 0
section
variable {t : AC} {ws : List (List Int)} {fall : Nat → Nat}
theorem stA_spec (h : t.Ok ws) (u : List Int) : stA t u < t.N ∧ t.str (stA t u) = lsuf t.isP u := by
  have he : ∃ j, j < t.N ∧ t.str j = lsuf t.isP u := lsuf_P h.nil u
  unfold stA
  rw [dif_pos he]
  exact Classical.choose_spec he
theorem stA_is (h : t.Ok ws) {u : List Int} {j : Nat} (hj : j < t.N) (e : t.str j = lsuf t.isP u) : j = stA t u := by
  obtain ⟨h1, h2⟩ := stA_spec h u
  exact h.inj _ _ hj h1 (by rw [e, h2])
theorem stA_nil (h : t.Ok ws) : stA t [] = 0 := (stA_is h h.pos (by rw [h.root]; rfl)).symm
theorem stA_step (h : t.Ok ws) {u : List Int} {c : Int} {j : Nat} (hs : StepTo t (stA t u) c j) : j = stA t (u ++ [c]) := by
  refine stA_is h hs.1 ?_
  rw [hs.2, (stA_spec h u).2, ← lsuf_snoc h.nil h.pre]
/-- The hits of the first places. -/
noncomputable def hitP (t : AC) (fall : Nat → Nat) (s : List Int) : Nat → List (Nat × Nat)
  | 0 => []
  | i + 1 => hitP t fall s i ++ (chA t fall (stA t (s.take (i + 1)))).map fun k => (k, i + 1)
end

set_option maxRecDepth 20000 in
set_option maxHeartbeats 1000000 in
theorem abAll_ok {w : World} {b0 m d : Nat} {ls : List (List Int)} {s : List Int} {S : Option Addr} {t : AC} {x : AbA} (D : AbDone w b0 ls t x) (hs : Ints w S m d s) (hwf : ∀ y ∈ s, (Lit.int .i64 y).wf = true) :
    Calls Try.prog 11 #[.pointer (some ⟨x.g, 0, none⟩), .slice S m d] w fun e w' => Ext w w' ∧ ((4096 < m ∧ e = .returned (.tuple #[.slice none 0 0, .int .i64 2])) ∨
      (m ≤ 4096 ∧ ∃ A n c, e = .returned (.tuple #[.slice A n c, .int .i64 0]) ∧ OwnH w' w.heap.size A n c (hitP t x.fall s m))) := by
  obtain ⟨j0, hj0, hy0, hy1, hy2⟩ := info_parts info_hit
  have HD := Lib.hid D
  have HS := Lib.hid hs
  have HSL := Lib.hid hs.len
  have HWF := Lib.hid hwf
  have hmd := hs.ncap
  have hdm := hs.nmax
  unfold maxLen at hdm
  clear D hs hwf
  go_enter Try.func11, Try.ntmps11
  by_cases hbig : 4096 < m
  · go_wp2_with fail
    go_ret2
    exact ⟨Ext.refl _, .inl ⟨hbig, rfl⟩⟩
  · have hm4 : m ≤ 4096 := by omega
    clear hbig
    go_wp2_with fail
    go_loopw [6, 7, 17] (fun ov av kv wr => ∃ (k n c : Nat) (A : Option Addr), k ≤ m ∧ kv = .int .i64 k ∧ av = .int .i64 (stA t (s.take k)) ∧ ov = .slice A n c ∧ n ≤ 100 * k ∧ Hid (OwnH wr w.heap.size A n c (hitP t x.fall s k)) ∧ Hid (Ext w wr)) (fun _ _ kv _ => m + 1 - (intOf kv).toNat)
    case atStart => exact ⟨0, 0, 0, none, Nat.zero_le _, rfl, by rw [List.take_zero, stA_nil HD.out.ok]; rfl, rfl, by omega, Lib.hid (Own.nil _ _ _ _), Lib.hid (Ext.refl _)⟩
    case round =>
      obtain ⟨k, n, c, A, hk, rfl, rfl, rfl, hn, HO, HE⟩ := hrel
      by_cases hlt : k < m
      · obtain ⟨ad, rfl, hcc⟩ := HS.out.at_ (k := k) hlt
        have hck := HE.out.cell (hcc k hlt)
        have hcw := HWF.out (gI s k) (gI_in (by rw [HSL.out]; exact hlt))
        have hst := stA_spec HD.out.ok (s.take k)
        obtain ⟨K, hA⟩ := HD.out.mem
        have HSTEP := Lib.hid (abStep_ok HD.out.ok (hA.ext HE.out) hst.1 (fun i hi h0 _ => HD.out.falls i hi h0) hcw)
        have HTK : Hid (s.take (k + 1) = s.take k ++ [gI s k]) := Lib.hid (takeI_snoc (by rw [HSL.out]; exact hlt))
        obtain ⟨a0, ha0⟩ : ∃ a0, a0 = stA t (s.take k) := ⟨_, rfl⟩
        rw [← ha0] at HSTEP ⊢
        have HA0 := Lib.hid ha0
        clear hcc hst hA ha0
        go_wp2_with fail
        refine HSTEP.out.mono ?_
        rintro e w2 ⟨rfl, j, rfl, hj⟩
        have HJ : Hid (j = stA t (s.take (k + 1))) := Lib.hid (by rw [HTK.out]; rw [HA0.out] at hj; exact stA_step HD.out.ok hj)
        have HJN := Lib.hid hj.1
        clear hj
        go_wp2_with fail
        refine (abEnds_ok (HD.out.ext HE.out) HJN.out).mono ?_
        rintro e w3 ⟨hx3, B, q, dq, rfl, hB, hq⟩
        have HB := Lib.hid hB
        have HBL : Hid ((chA t x.fall j).length = q) := Lib.hid (by have := hB.ints.len; simpa [natI] using this)
        have hqd := hB.ints.ncap
        have hqm := hB.ints.nmax
        unfold maxLen at hqm
        have HO3 : Hid (OwnH w3 w.heap.size A n c (hitP t x.fall s k)) := Lib.hid (Own.ext HO.out hx3)
        have HE3 := Lib.hid (HE.out.trans hx3)
        clear hx3 hB
        go_wp2_with fail
        generalize w3 = w3 at *
        go_loopw [6, 30] (fun ov yv wr => ∃ (y n c : Nat) (A : Option Addr), y ≤ q ∧ yv = .int .i64 y ∧ ov = .slice A n c ∧ n ≤ 100 * k + y ∧ Hid (OwnH wr w.heap.size A n c (hitP t x.fall s k ++ ((chA t x.fall j).take y).map fun z => (z, k + 1))) ∧ Hid (OwnI wr w2.heap.size B q dq (natI (chA t x.fall j))) ∧ Hid (Ext w wr)) (fun _ yv _ => q + 1 - (intOf yv).toNat)
        case atStart => exact ⟨0, n, c, A, Nat.zero_le _, rfl, rfl, by omega, (by simpa using HO3), HB, HE3⟩
        case round =>
          clear HO3 HB HE3
          obtain ⟨y, n', c', A', hy, rfl, rfl, hn', HO', HB, HE'⟩ := hrel
          by_cases hlq : y < q
          · obtain ⟨bd, rfl, hbc⟩ := HB.out.ints.at_ (k := y) hlq
            have hyl : y < (chA t x.fall j).length := by rw [HBL.out]; exact hlq
            obtain ⟨z, hz⟩ : ∃ z : Nat, z = (chA t x.fall j)[y] := ⟨_, rfl⟩
            have hby := hbc y hlq
            rw [natI_at hyl, ← hz] at hby
            have hown := HO'.out
            have hxx := HE'.out
            have hsz := hxx.hsize
            have HZ : Hid ((chA t x.fall j).take (y + 1) = (chA t x.fall j).take y ++ [z]) := Lib.hid (by rw [hz, List.take_add_one, List.getElem?_eq_getElem hyl]; rfl)
            clear hbc hz
            go_wp2_with (at_builtin; refine wpList_push rfl (.tmp 34) (.tmp 39) 29 rfl w w.heap.size 34 j0 _ 2 16 Try.underlying29 hj0 hy0 hy1 hy2 rfl (by decide) A' n' c' _ rfl hown #[.int .i64 z, .int .i64 ((k : Int) + 1)] rfl (by simp [Value.oneCell']) rfl (by unfold maxLen; omega) (by omega) hxx (Nat.le_refl _) hsz ?_; intro A2 d2 w2 k1 k2 k3 k4)
            go_roundw
            case rel =>
              refine ⟨y + 1, n' + 1, d2, A2, by omega, by go_num, rfl, by omega, Lib.hid ?_, Lib.hid (Own.kept HB.out k2 (.inr (fun e => ?_))), Lib.hid k4⟩
              · unfold OwnH
                rw [HZ.out, List.map_append, ← List.append_assoc, hitC_app]
                exact k1
              · cases ho : (Value.slice (some bd) q dq).ownBlock with
                | none => cases ho
                | some b => exact Own.unlike HB.out hown (by decide) b ho (by rw [← e]; exact ho)
            case measure => simp [intOf]; omega
          · obtain rfl : y = q := by omega
            go_wp2_with fail
            go_roundw
            case rel =>
              refine ⟨k + 1, n', c', A', by omega, by go_num, by rw [← HJ.out], rfl, by omega, Lib.hid ?_, HE'⟩
              have := HO'.out
              rw [List.take_of_length_le (by rw [HBL.out]; exact Nat.le_refl _), HJ.out] at this
              exact this
            case measure => simp [intOf]; omega
      · obtain rfl : k = m := by omega
        go_wp2_with fail
        go_ret2
        exact ⟨HE.out, .inr ⟨hm4, A, n, c, rfl, HO.out⟩⟩
end Go.Proofs.Ytdkjkcegchohfaa
