/-
  The walk of the machine's take.
-/
import Derived.Test.YtbgegkagnahlpaaFeedT
namespace Go.Proofs.Ytbgegkagnahlpaa
open Go.RowKit
set_option linter.unusedVariables false
set_option linter.unusedSimpArgs false

theorem pre_len {ah : List Nat} (h : Pre ah) : ah.length ≤ 3 := by
  match ah, h with
  | [], _ => simp
  | [a], _ => simp
  | [a, b], _ => simp
  | [a, b, c], _ => simp

set_option maxRecDepth 20000 in
set_option maxHeartbeats 16000000 in
theorem take_ok {w0 w : World} {g : Nat} {ah : List Nat} {out : List Int} {b : Nat} (h : MachAt w g ⟨ah, out⟩) (hp : Pre ah) (HltA : Hid (∀ x ∈ ah, x < 256)) (hb256 : b < 256) (he : Ext w0 w) (hg : w0.heap.size ≤ g) (hq : out.length ≤ 1000000) :
    Calls Try.prog 25 #[.pointer (some ⟨g, 0, none⟩), .int .u8 b] w fun e w' => e = .returned (.tuple #[]) ∧ MachAt w' g (tkF ⟨ah, out⟩ b) ∧ Ext w0 w' := by
  obtain ⟨i0, hi, hz0, hz1, hz2⟩ := info_parts info_int
  obtain ⟨i8, hi8, hy0, hy1, hy2⟩ := info_parts info_u8
  have hal := pre_len hp
  have HM := Lib.hid h
  obtain ⟨A, n, c, O, q, d, hb, ha, ho⟩ := h
  have hl : ah.length = n := by have := (Own.rd ha).len; rw [List.length_map] at this; simp at this; omega
  have hql : out.length = q := ho.ints.len
  have hqb : q ≤ 1000000 := by omega
  have hnc := (Own.rd ha).ncap
  have hcm := (Own.rd ha).nmax
  unfold maxLen at hcm
  have HQ : Hid (out.length ≤ 1000000) := Lib.hid (by omega)
  clear hp hql hq
  by_cases h0 : n = 0
  · subst h0
    obtain rfl : ah = [] := List.length_eq_zero_iff.1 hl
    have HP : Hid (tkF ⟨[], out⟩ b = putM ⟨[], out⟩ b) := Lib.hid (tk_zero out b)
    have heW := he
    have HA0 := Lib.hid ha
    have HAZ : Hid (∀ (w3 : World) (row : Option Nat), w.grownBy w3 row → ((Value.slice A 0 c).ownBlock = none ∨ (Value.slice A 0 c).ownBlock ≠ row) → Own w3 (g + 1) 5 1 A 0 c []) := Lib.hid fun w3 row h1 h2 => Own.kept ha h1 h2
    clear hl HM he
    have k0 := hb.cell 0
    have k1 := hb.cell 1
    have f0 := hb.frozen 0
    have f1 := hb.frozen 1
    simp only [List.getElem?_toArray, List.getElem?_cons_zero, List.getElem?_cons_succ] at k0 k1
    go_enter Try.func25, Try.ntmps25
    have HW := Lib.hid (whole_ok b)
    by_cases hw0 : whF b = 0
    · rw [hw0] at HW
      have HR : Hid (tkF ⟨[], out⟩ b = ⟨[], out ++ [65533]⟩) := Lib.hid (by rw [HP.out]; unfold putM; exact if_pos ⟨rfl, hw0⟩)
      have hbl := hb.lt
      have HBB := Lib.hid hb
      have HOO := Lib.hid ho
      clear hw0 HP hb ha
      go_wp2_with fail
      refine (HW.out _).mono ?_
      rintro e w' ⟨rfl, rfl⟩
      go_wp2_with (at_builtin; refine wpList_push rfl (.tmp 39) (.tmp 40) 26 rfl w0 (g + 1) 3 i0 (.int .i64 0) 1 8 Try.underlying26 hi hz0 hz1 hz2 rfl (by decide) O q d _ rfl ho #[.int .i64 65533] rfl ?_ rfl ?_ ?_ heW (by omega) hbl ?_)
      · rfl
      · unfold maxLen; omega
      · omega
      · intro O2 d2 w3 hO2 hgr hor hx3
        have hne : (Value.slice O q d).ownBlock ≠ some g := fun e => by have := (Own.blk HOO.out g e).1; omega
        have hb3 := HBB.out.grown hgr (fun e => hne e.symm)
        have c1 := hb3.cell 1
        have f1 := hb3.frozen 1
        simp only [List.getElem?_toArray, List.getElem?_cons_zero, List.getElem?_cons_succ] at c1
        have hb4 : Blk (w3.setCell ⟨g, 1, none⟩ (.slice O2 (q + 1) d2)) g 58 #[.slice A 0 c, .slice O2 (q + 1) d2] := by simpa using hb3.set_ 1 (.slice O2 (q + 1) d2)
        have hO4 : OwnI (w3.setCell ⟨g, 1, none⟩ (.slice O2 (q + 1) d2)) (g + 1) O2 (q + 1) d2 (out ++ [65533]) := by
          have := Own.setCell hO2 (p := ⟨g, 1, none⟩) (Nat.lt_succ_self g) (.slice O2 (q + 1) d2)
          simpa [OwnI] using this
        have hA4 := HAZ.out w3 _ hgr (Own.apart HA0.out HOO.out (by decide))
        have HX := Lib.hid (hx3.setCell (p := ⟨g, 1, none⟩) hg (.slice O2 (q + 1) d2))
        have HF : Hid (MachAt (w3.setCell ⟨g, 1, none⟩ (.slice O2 (q + 1) d2)) g ⟨[], out ++ [65533]⟩) := Lib.hid ⟨A, 0, c, O2, q + 1, d2, hb4, Own.setCell hA4 (p := ⟨g, 1, none⟩) (Nat.lt_succ_self g) _, hO4⟩
        clear hO2 hgr hor hx3 hb3 hb4 hO4 hA4 hne ho k0 k1 f0
        go_wp2_with fail
        refine bodyPost_ret (results_none rfl _ _ _) rfl ?_
        exact ⟨rfl, by rw [HR.out]; exact HF.out, HX.out⟩
    · have hnb : ¬ (([] : List Nat).length = 0 ∧ whF b = 0) := fun h => hw0 h.2
      have hwi : ((whF b : Int) == 0) = false := by simp; omega
      obtain ⟨wb, hwb⟩ : ∃ wb, whF b = wb := ⟨_, rfl⟩
      rw [hwb] at HW hwi
      clear hw0 hwb
      go_wp2_with fail
      refine (HW.out _).mono ?_
      rintro e w' ⟨rfl, rfl⟩
      clear HW
      have Hfull : Hid ((([] : List Nat) ++ [b]).length = whF (gN (([] : List Nat) ++ [b]) 0) → tkF ⟨[], out⟩ b = ⟨[], out ++ [(getC (([] : List Nat) ++ [b]) : Int)]⟩) := Lib.hid fun h => by
        rw [HP.out]; unfold putM; rw [if_neg hnb]; exact if_pos h
      have Hpart : Hid (¬ (([] : List Nat) ++ [b]).length = whF (gN (([] : List Nat) ++ [b]) 0) → tkF ⟨[], out⟩ b = ⟨([] : List Nat) ++ [b], out⟩) := Lib.hid fun h => by
        rw [HP.out]; unfold putM; rw [if_neg hnb]; exact if_neg h
      have Hlt : Hid (∀ x ∈ ([] : List Nat) ++ [b], x < 256) := Lib.hid (by
        intro x hx
        rcases List.mem_append.1 hx with hx | hx
        · exact HltA.out x hx
        · obtain rfl := List.mem_singleton.1 hx; exact hb256)
      have hap := Own.apart ho ha (by decide)
      have hnA : (Value.slice A 0 c).ownBlock ≠ some g := fun e => by have := (Own.blk ha g e).1; omega
      have hbl := hb.lt
      have HBB := Lib.hid hb
      have HOO := Lib.hid ho
      have HAP := Lib.hid hap
      have HNA := Lib.hid hnA
      clear hap hnA hb ho HP hnb
      go_wp2_with (at_builtin; refine wpList_push rfl (.tmp 48) (.tmp 50) 43 rfl w0 (g + 1) 5 i8 (.int .u8 0) 1 1 Try.underlying43 hi8 hy0 hy1 hy2 rfl (by decide) A 0 c _ rfl ha #[.int .u8 b] rfl ?_ rfl ?_ ?_ heW (by omega) hbl ?_)
      · rfl
      · unfold maxLen; omega
      · omega
      · intro A2 c4 w3 hA2 hgr hor hx3
        have hb3 := HBB.out.grown hgr (fun e => HNA.out e.symm)
        have c0 := hb3.cell 0
        have f0 := hb3.frozen 0
        simp only [List.getElem?_toArray, List.getElem?_cons_zero, List.getElem?_cons_succ] at c0
        have hO3 := Own.kept HOO.out hgr HAP.out
        have hb4 : Blk (w3.setCell ⟨g, 0, none⟩ (.slice A2 1 c4)) g 58 #[.slice A2 1 c4, .slice O q d] := by simpa using hb3.set_ 0 (.slice A2 1 c4)
        have hA4 : Own (w3.setCell ⟨g, 0, none⟩ (.slice A2 1 c4)) (g + 1) 5 1 A2 1 c4 ((([] : List Nat) ++ [b]).map bv) := by
          have := Own.setCell hA2 (p := ⟨g, 0, none⟩) (Nat.lt_succ_self g) (.slice A2 1 c4)
          simpa [bv] using this
        have ho4 : OwnI (w3.setCell ⟨g, 0, none⟩ (.slice A2 1 c4)) (g + 1) O q d out := Own.setCell hO3 (p := ⟨g, 0, none⟩) (Nat.lt_succ_self g) (.slice A2 1 c4)
        have hE4 := hx3.setCell (p := ⟨g, 0, none⟩) hg (.slice A2 1 c4)
        have hgz := hb3.lt
        clear hA2 hgr hor hx3 hb3 hO3 HBB HOO HAP HNA ha heW k0 k1 f1
        go_wp2_with fail
        clear c0 f0
        revert hb4 hA4 ho4 hE4
        generalize w3.setCell ⟨g, 0, none⟩ (.slice A2 1 c4) = w4
        intro hb4 hA4 ho4 hE4
        obtain ⟨bs, hbs⟩ : ∃ bs, ([] : List Nat) ++ [b] = bs := ⟨_, rfl⟩
        rw [hbs] at hA4 Hfull Hpart Hlt
        clear hbs
        have hpl : bs.length = 1 := by have := (Own.rd hA4).len; rw [List.length_map] at this; omega
        obtain ⟨ad, hAe, hca⟩ := bv_at (Own.rd hA4) (k := 0) (by omega)
        rw [add_nought] at hca
        subst hAe
        have k0 := hb4.cell 0
        have k1 := hb4.cell 1
        have f0 := hb4.frozen 0
        have f1 := hb4.frozen 1
        simp only [List.getElem?_toArray, List.getElem?_cons_zero, List.getElem?_cons_succ] at k0 k1
        have HWh := Lib.hid (whole_ok (gN bs 0))
        have hcv := conv_bytes (Rd.ext (Own.rd hA4) (Ext.drew w4))
        have HG : Hid (∀ wq, Calls Try.prog 11 #[.string (strN bs)] wq fun e w' => e = .returned (.tuple #[.int .i64 (getC bs), .int .i64 (getW bs), .int .i64 (getE bs)]) ∧ wq = w') := Lib.hid fun wq => by
          have h := get_ok (strN bs) wq
          rwa [nums_strN Hlt.out] at h
        have HB4 := Lib.hid hb4
        have HA4 := Lib.hid hA4
        have HO4 := Lib.hid ho4
        have HE4 := Lib.hid hE4
        have hpc := (Own.rd hA4).ncap
        have hpm := (Own.rd hA4).nmax
        unfold maxLen at hpm
        have hg4 := hb4.lt
        have hpl2 := Lib.hid hpl
        clear hb4 hA4 ho4 hE4 hpl
        generalize hwz : whF (gN bs 0) = wz at *
        generalize gN bs 0 = a0 at *
        have Hwz := Lib.hid hwz
        clear hwz
        go_region_held3 (fun w' => w'.cell? ⟨g, 0, none⟩ = some (.slice (some ad) 1 c4) ∧ w'.cell? ad = some (.int .u8 a0)) (first | assumption | exact ⟨k0, hca⟩)
          ((go_at_call 28; refine (HWh.out _).mono ?_; rintro e w' ⟨rfl, rfl⟩))
        by_cases hfull : 1 = wz
        · have hfi : ((1 : Int) == (wz : Int)) = true := by simp; omega
          have HR := Lib.hid (Hfull.out (by rw [hpl2.out]; exact hfull))
          generalize getC bs = gc at *
          generalize getW bs = gw at *
          generalize getE bs = ge at *
          clear hfull
          go_wp2_with fail
          refine (HG.out _).mono ?_
          rintro e w' ⟨rfl, rfl⟩
          have hown := OwnI.ext HO4.out (Ext.drew w4)
          have hE5 := HE4.out.to_drew
          have hg5 : g + 1 ≤ w4.drew.heap.size := hg4
          clear hcv hca
          go_wp2_with (at_builtin; refine wpList_push rfl (.tmp 81) (.tmp 83) 26 rfl w0 (g + 1) 3 i0 (.int .i64 0) 1 8 Try.underlying26 hi hz0 hz1 hz2 rfl (by decide) O q d _ rfl hown #[.int .i64 gc] rfl ?_ rfl ?_ ?_ hE5 (by omega) hg5 ?_)
          · rfl
          · unfold maxLen; omega
          · omega
          · intro O2 d2 w5 hO2 hgr hor hx3
            have hne : (Value.slice O q d).ownBlock ≠ some g := fun e => by have := (Own.blk HO4.out g e).1; omega
            have hb5 := (HB4.out.drewN 1).grown hgr (fun e => hne e.symm)
            have c0 := hb5.cell 0
            have c1 := hb5.cell 1
            have f0 := hb5.frozen 0
            have f1 := hb5.frozen 1
            simp only [List.getElem?_toArray, List.getElem?_cons_zero, List.getElem?_cons_succ] at c0 c1
            have hb6 : Blk (w5.setCell ⟨g, 1, none⟩ (.slice O2 (q + 1) d2)) g 58 #[.slice (some ad) 1 c4, .slice O2 (q + 1) d2] := by simpa using hb5.set_ 1 (.slice O2 (q + 1) d2)
            have f4 := hb6.frozen 0
            have c6 := hb6.cell 0
            simp only [List.getElem?_toArray, List.getElem?_cons_zero, List.getElem?_cons_succ] at c6
            have hb7 : Blk ((w5.setCell ⟨g, 1, none⟩ (.slice O2 (q + 1) d2)).setCell ⟨g, 0, none⟩ (.slice none 0 0)) g 58 #[.slice none 0 0, .slice O2 (q + 1) d2] := by simpa using hb6.set_ 0 (.slice none 0 0)
            have hO5 : OwnI ((w5.setCell ⟨g, 1, none⟩ (.slice O2 (q + 1) d2)).setCell ⟨g, 0, none⟩ (.slice none 0 0)) (g + 1) O2 (q + 1) d2 (out ++ [(gc : Int)]) := by
              have := Own.setCell (Own.setCell hO2 (p := ⟨g, 1, none⟩) (Nat.lt_succ_self g) (.slice O2 (q + 1) d2)) (p := ⟨g, 0, none⟩) (Nat.lt_succ_self g) (.slice none 0 0)
              simpa [OwnI] using this
            have HX := Lib.hid ((hx3.setCell (p := ⟨g, 1, none⟩) hg (.slice O2 (q + 1) d2)).setCell (p := ⟨g, 0, none⟩) hg (.slice none 0 0))
            have HF : Hid (MachAt ((w5.setCell ⟨g, 1, none⟩ (.slice O2 (q + 1) d2)).setCell ⟨g, 0, none⟩ (.slice none 0 0)) g ⟨[], out ++ [(gc : Int)]⟩) := Lib.hid ⟨none, 0, 0, O2, q + 1, d2, hb7, Own.nil _ _ _ _, hO5⟩
            clear hO2 hgr hor hx3 hb5 hb6 hb7 hO5 hown hne k0 k1 hE5
            go_wp2_with fail
            go_end0
            exact ⟨rfl, by rw [HR.out]; exact HF.out, HX.out⟩
        · have hfi : ((1 : Int) == (wz : Int)) = false := by simp; omega
          have HR := Lib.hid (Hpart.out (by rw [hpl2.out]; exact hfull))
          have HF : Hid (MachAt w4.drew g ⟨bs, out⟩) := Lib.hid ⟨some ad, 1, c4, O, q, d, HB4.out.drewN 1, Own.ext HA4.out (Ext.drew w4), OwnI.ext HO4.out (Ext.drew w4)⟩
          clear hfull hcv hca
          go_wp2_with fail
          go_end0
          exact ⟨rfl, by rw [HR.out]; exact HF.out, HE4.out.to_drew⟩

  · have hn1 : 0 < n := by omega
    have hne : ah ≠ [] := fun e => by rw [e] at hl; simp at hl; omega
    have HFt := Lib.hid (fun wq he' => fits_ok (b := b) (w := wq) (Rd.ext (Own.rd ha) (w' := wq) he'))
    by_cases hf : fitsF ah b
    · have HP : Hid (tkF ⟨ah, out⟩ b = putM ⟨ah, out⟩ b) := Lib.hid (by unfold tkF; rw [if_neg (fun hh => hh.2 hf)])
      have HFc := Lib.hid (HFt.out w (Ext.refl w))
      rw [decide_eq_true hf] at HFc
      have hnb : ¬ (ah.length = 0 ∧ whF b = 0) := fun h => by omega
      have heW := he
      clear hf HFt HM he hne h0
      have k0 := hb.cell 0
      have k1 := hb.cell 1
      have f0 := hb.frozen 0
      have f1 := hb.frozen 1
      simp only [List.getElem?_toArray, List.getElem?_cons_zero, List.getElem?_cons_succ] at k0 k1
      go_enter Try.func25, Try.ntmps25
      go_wp2_with fail
      refine HFc.out.mono ?_
      rintro e w' ⟨rfl, rfl⟩
      have hn3 : n ≤ 3 := by omega
      clear HFc hl
      have Hfull : Hid ((ah ++ [b]).length = whF (gN (ah ++ [b]) 0) → tkF ⟨ah, out⟩ b = ⟨[], out ++ [(getC (ah ++ [b]) : Int)]⟩) := Lib.hid fun h => by
        rw [HP.out]; unfold putM; rw [if_neg hnb]; exact if_pos h
      have Hpart : Hid (¬ (ah ++ [b]).length = whF (gN (ah ++ [b]) 0) → tkF ⟨ah, out⟩ b = ⟨ah ++ [b], out⟩) := Lib.hid fun h => by
        rw [HP.out]; unfold putM; rw [if_neg hnb]; exact if_neg h
      have Hlt : Hid (∀ x ∈ ah ++ [b], x < 256) := Lib.hid (by
        intro x hx
        rcases List.mem_append.1 hx with hx | hx
        · exact HltA.out x hx
        · obtain rfl := List.mem_singleton.1 hx; exact hb256)
      have hap := Own.apart ho ha (by decide)
      have hnA : (Value.slice A n c).ownBlock ≠ some g := fun e => by have := (Own.blk ha g e).1; omega
      have hbl := hb.lt
      have HBB := Lib.hid hb
      have HOO := Lib.hid ho
      have HAP := Lib.hid hap
      have HNA := Lib.hid hnA
      clear hap hnA hb ho HP hnb
      go_wp2_with (at_builtin; refine wpList_push rfl (.tmp 48) (.tmp 50) 43 rfl w0 (g + 1) 5 i8 (.int .u8 0) 1 1 Try.underlying43 hi8 hy0 hy1 hy2 rfl (by decide) A n c _ rfl ha #[.int .u8 b] rfl ?_ rfl ?_ ?_ heW (by omega) hbl ?_)
      · rfl
      · unfold maxLen; omega
      · omega
      · intro A2 c4 w3 hA2 hgr hor hx3
        have hb3 := HBB.out.grown hgr (fun e => HNA.out e.symm)
        have c0 := hb3.cell 0
        have f0 := hb3.frozen 0
        simp only [List.getElem?_toArray, List.getElem?_cons_zero, List.getElem?_cons_succ] at c0
        have hO3 := Own.kept HOO.out hgr HAP.out
        have hb4 : Blk (w3.setCell ⟨g, 0, none⟩ (.slice A2 (n + 1) c4)) g 58 #[.slice A2 (n + 1) c4, .slice O q d] := by simpa using hb3.set_ 0 (.slice A2 (n + 1) c4)
        have hA4 : Own (w3.setCell ⟨g, 0, none⟩ (.slice A2 (n + 1) c4)) (g + 1) 5 1 A2 (n + 1) c4 ((ah ++ [b]).map bv) := by
          have := Own.setCell hA2 (p := ⟨g, 0, none⟩) (Nat.lt_succ_self g) (.slice A2 (n + 1) c4)
          simpa [bv] using this
        have ho4 : OwnI (w3.setCell ⟨g, 0, none⟩ (.slice A2 (n + 1) c4)) (g + 1) O q d out := Own.setCell hO3 (p := ⟨g, 0, none⟩) (Nat.lt_succ_self g) (.slice A2 (n + 1) c4)
        have hE4 := hx3.setCell (p := ⟨g, 0, none⟩) hg (.slice A2 (n + 1) c4)
        have hgz := hb3.lt
        clear hA2 hgr hor hx3 hb3 hO3 HBB HOO HAP HNA ha heW k0 k1 f1
        go_wp2_with fail
        clear c0 f0
        revert hb4 hA4 ho4 hE4
        generalize w3.setCell ⟨g, 0, none⟩ (.slice A2 (n + 1) c4) = w4
        intro hb4 hA4 ho4 hE4
        obtain ⟨bs, hbs⟩ : ∃ bs, ah ++ [b] = bs := ⟨_, rfl⟩
        rw [hbs] at hA4 Hfull Hpart Hlt
        clear hbs
        have hpl : bs.length = (n + 1) := by have := (Own.rd hA4).len; rw [List.length_map] at this; omega
        obtain ⟨ad, hAe, hca⟩ := bv_at (Own.rd hA4) (k := 0) (by omega)
        rw [add_nought] at hca
        subst hAe
        have k0 := hb4.cell 0
        have k1 := hb4.cell 1
        have f0 := hb4.frozen 0
        have f1 := hb4.frozen 1
        simp only [List.getElem?_toArray, List.getElem?_cons_zero, List.getElem?_cons_succ] at k0 k1
        have HWh := Lib.hid (whole_ok (gN bs 0))
        have hcv := conv_bytes (Rd.ext (Own.rd hA4) (Ext.drew w4))
        have HG : Hid (∀ wq, Calls Try.prog 11 #[.string (strN bs)] wq fun e w' => e = .returned (.tuple #[.int .i64 (getC bs), .int .i64 (getW bs), .int .i64 (getE bs)]) ∧ wq = w') := Lib.hid fun wq => by
          have h := get_ok (strN bs) wq
          rwa [nums_strN Hlt.out] at h
        have HB4 := Lib.hid hb4
        have HA4 := Lib.hid hA4
        have HO4 := Lib.hid ho4
        have HE4 := Lib.hid hE4
        have hpc := (Own.rd hA4).ncap
        have hpm := (Own.rd hA4).nmax
        unfold maxLen at hpm
        have hg4 := hb4.lt
        have hpl2 := Lib.hid hpl
        clear hb4 hA4 ho4 hE4 hpl
        generalize hwz : whF (gN bs 0) = wz at *
        generalize gN bs 0 = a0 at *
        have Hwz := Lib.hid hwz
        clear hwz
        go_region_held3 (fun w' => w'.cell? ⟨g, 0, none⟩ = some (.slice (some ad) (n + 1) c4) ∧ w'.cell? ad = some (.int .u8 a0)) (first | assumption | exact ⟨k0, hca⟩)
          ((go_at_call 28; refine (HWh.out _).mono ?_; rintro e w' ⟨rfl, rfl⟩))
        by_cases hfull : (n + 1) = wz
        · have hfi : (((n : Int) + 1) == (wz : Int)) = true := by simp; omega
          have HR := Lib.hid (Hfull.out (by rw [hpl2.out]; exact hfull))
          generalize getC bs = gc at *
          generalize getW bs = gw at *
          generalize getE bs = ge at *
          clear hfull
          go_wp2_with fail
          refine (HG.out _).mono ?_
          rintro e w' ⟨rfl, rfl⟩
          have hown := OwnI.ext HO4.out (Ext.drew w4)
          have hE5 := HE4.out.to_drew
          have hg5 : g + 1 ≤ w4.drew.heap.size := hg4
          clear hcv hca
          go_wp2_with (at_builtin; refine wpList_push rfl (.tmp 81) (.tmp 83) 26 rfl w0 (g + 1) 3 i0 (.int .i64 0) 1 8 Try.underlying26 hi hz0 hz1 hz2 rfl (by decide) O q d _ rfl hown #[.int .i64 gc] rfl ?_ rfl ?_ ?_ hE5 (by omega) hg5 ?_)
          · rfl
          · unfold maxLen; omega
          · omega
          · intro O2 d2 w5 hO2 hgr hor hx3
            have hne : (Value.slice O q d).ownBlock ≠ some g := fun e => by have := (Own.blk HO4.out g e).1; omega
            have hb5 := (HB4.out.drewN 1).grown hgr (fun e => hne e.symm)
            have c0 := hb5.cell 0
            have c1 := hb5.cell 1
            have f0 := hb5.frozen 0
            have f1 := hb5.frozen 1
            simp only [List.getElem?_toArray, List.getElem?_cons_zero, List.getElem?_cons_succ] at c0 c1
            have hb6 : Blk (w5.setCell ⟨g, 1, none⟩ (.slice O2 (q + 1) d2)) g 58 #[.slice (some ad) (n + 1) c4, .slice O2 (q + 1) d2] := by simpa using hb5.set_ 1 (.slice O2 (q + 1) d2)
            have f4 := hb6.frozen 0
            have c6 := hb6.cell 0
            simp only [List.getElem?_toArray, List.getElem?_cons_zero, List.getElem?_cons_succ] at c6
            have hb7 : Blk ((w5.setCell ⟨g, 1, none⟩ (.slice O2 (q + 1) d2)).setCell ⟨g, 0, none⟩ (.slice none 0 0)) g 58 #[.slice none 0 0, .slice O2 (q + 1) d2] := by simpa using hb6.set_ 0 (.slice none 0 0)
            have hO5 : OwnI ((w5.setCell ⟨g, 1, none⟩ (.slice O2 (q + 1) d2)).setCell ⟨g, 0, none⟩ (.slice none 0 0)) (g + 1) O2 (q + 1) d2 (out ++ [(gc : Int)]) := by
              have := Own.setCell (Own.setCell hO2 (p := ⟨g, 1, none⟩) (Nat.lt_succ_self g) (.slice O2 (q + 1) d2)) (p := ⟨g, 0, none⟩) (Nat.lt_succ_self g) (.slice none 0 0)
              simpa [OwnI] using this
            have HX := Lib.hid ((hx3.setCell (p := ⟨g, 1, none⟩) hg (.slice O2 (q + 1) d2)).setCell (p := ⟨g, 0, none⟩) hg (.slice none 0 0))
            have HF : Hid (MachAt ((w5.setCell ⟨g, 1, none⟩ (.slice O2 (q + 1) d2)).setCell ⟨g, 0, none⟩ (.slice none 0 0)) g ⟨[], out ++ [(gc : Int)]⟩) := Lib.hid ⟨none, 0, 0, O2, q + 1, d2, hb7, Own.nil _ _ _ _, hO5⟩
            clear hO2 hgr hor hx3 hb5 hb6 hb7 hO5 hown hne k0 k1 hE5
            go_wp2_with fail
            go_end0
            exact ⟨rfl, by rw [HR.out]; exact HF.out, HX.out⟩
        · have hfi : (((n : Int) + 1) == (wz : Int)) = false := by simp; omega
          have HR := Lib.hid (Hpart.out (by rw [hpl2.out]; exact hfull))
          have HF : Hid (MachAt w4.drew g ⟨bs, out⟩) := Lib.hid ⟨some ad, (n + 1), c4, O, q, d, HB4.out.drewN 1, Own.ext HA4.out (Ext.drew w4), OwnI.ext HO4.out (Ext.drew w4)⟩
          clear hfull hcv hca
          go_wp2_with fail
          go_end0
          exact ⟨rfl, by rw [HR.out]; exact HF.out, HE4.out.to_drew⟩
    · have HB := Lib.hid (broken_ok HM.out he hg HQ.out)
      have HE : Hid (brkF ⟨ah, out⟩ = ⟨[], out ++ [65533]⟩) := Lib.hid (by unfold brkF; exact if_neg (by show ¬ ah.length = 0; omega))
      rw [HE.out] at HB
      have HP : Hid (tkF ⟨ah, out⟩ b = putM ⟨[], out ++ [65533]⟩ b) := Lib.hid (tk_break out hne hf)
      have HFc := Lib.hid (HFt.out w (Ext.refl w))
      rw [decide_eq_false hf] at HFc
      clear hf HFt HM he hne h0 HE
      have k0 := hb.cell 0
      have k1 := hb.cell 1
      have f0 := hb.frozen 0
      have f1 := hb.frozen 1
      simp only [List.getElem?_toArray, List.getElem?_cons_zero, List.getElem?_cons_succ] at k0 k1
      clear hb ha ho hl f0 f1
      go_enter Try.func25, Try.ntmps25
      go_wp2_with fail
      refine HFc.out.mono ?_
      rintro e w' ⟨rfl, rfl⟩
      clear HFc
      go_wp2_with fail
      refine HB.out.mono ?_
      rintro e w1 ⟨rfl, hM1, heW⟩
      clear HB k0 k1 hnc hcm HltA
      have HltA : Hid (∀ x ∈ ([] : List Nat), x < 256) := Lib.hid (by simp)
      obtain ⟨A, n', c, O, q', d, hb, ha, ho⟩ := hM1
      obtain rfl : n' = 0 := by have := (Own.rd ha).len; simp at this; omega
      have hqb2 : q' ≤ 1000001 := by have h1 := ho.ints.len; simp at h1; have h2 := HQ.out; omega
      have hnc := (Own.rd ha).ncap
      have hcm := (Own.rd ha).nmax
      unfold maxLen at hcm
      have HA0 := Lib.hid ha
      have HAZ : Hid (∀ (w3 : World) (row : Option Nat), w1.grownBy w3 row → ((Value.slice A 0 c).ownBlock = none ∨ (Value.slice A 0 c).ownBlock ≠ row) → Own w3 (g + 1) 5 1 A 0 c []) := Lib.hid fun w3 row h1 h2 => Own.kept ha h1 h2
      have k0 := hb.cell 0
      have k1 := hb.cell 1
      have f0 := hb.frozen 0
      have f1 := hb.frozen 1
      simp only [List.getElem?_toArray, List.getElem?_cons_zero, List.getElem?_cons_succ] at k0 k1
      have HW := Lib.hid (whole_ok b)
      by_cases hw0 : whF b = 0
      · rw [hw0] at HW
        have HR : Hid (tkF ⟨ah, out⟩ b = ⟨[], (out ++ [65533]) ++ [65533]⟩) := Lib.hid (by rw [HP.out]; unfold putM; exact if_pos ⟨rfl, hw0⟩)
        have hbl := hb.lt
        have HBB := Lib.hid hb
        have HOO := Lib.hid ho
        clear hw0 HP hb ha
        go_wp2_with fail
        refine (HW.out _).mono ?_
        rintro e w' ⟨rfl, rfl⟩
        go_wp2_with (at_builtin; refine wpList_push rfl (.tmp 39) (.tmp 40) 26 rfl w0 (g + 1) 3 i0 (.int .i64 0) 1 8 Try.underlying26 hi hz0 hz1 hz2 rfl (by decide) O q' d _ rfl ho #[.int .i64 65533] rfl ?_ rfl ?_ ?_ heW (by omega) hbl ?_)
        · rfl
        · unfold maxLen; omega
        · omega
        · intro O2 d2 w3 hO2 hgr hor hx3
          have hne : (Value.slice O q' d).ownBlock ≠ some g := fun e => by have := (Own.blk HOO.out g e).1; omega
          have hb3 := HBB.out.grown hgr (fun e => hne e.symm)
          have c1 := hb3.cell 1
          have f1 := hb3.frozen 1
          simp only [List.getElem?_toArray, List.getElem?_cons_zero, List.getElem?_cons_succ] at c1
          have hb4 : Blk (w3.setCell ⟨g, 1, none⟩ (.slice O2 (q' + 1) d2)) g 58 #[.slice A 0 c, .slice O2 (q' + 1) d2] := by simpa using hb3.set_ 1 (.slice O2 (q' + 1) d2)
          have hO4 : OwnI (w3.setCell ⟨g, 1, none⟩ (.slice O2 (q' + 1) d2)) (g + 1) O2 (q' + 1) d2 ((out ++ [65533]) ++ [65533]) := by
            have := Own.setCell hO2 (p := ⟨g, 1, none⟩) (Nat.lt_succ_self g) (.slice O2 (q' + 1) d2)
            simpa [OwnI] using this
          have hA4 := HAZ.out w3 _ hgr (Own.apart HA0.out HOO.out (by decide))
          have HX := Lib.hid (hx3.setCell (p := ⟨g, 1, none⟩) hg (.slice O2 (q' + 1) d2))
          have HF : Hid (MachAt (w3.setCell ⟨g, 1, none⟩ (.slice O2 (q' + 1) d2)) g ⟨[], (out ++ [65533]) ++ [65533]⟩) := Lib.hid ⟨A, 0, c, O2, q' + 1, d2, hb4, Own.setCell hA4 (p := ⟨g, 1, none⟩) (Nat.lt_succ_self g) _, hO4⟩
          clear hO2 hgr hor hx3 hb3 hb4 hO4 hA4 hne ho k0 k1 f0
          go_wp2_with fail
          refine bodyPost_ret (results_none rfl _ _ _) rfl ?_
          exact ⟨rfl, by rw [HR.out]; exact HF.out, HX.out⟩
      · have hnb : ¬ (([] : List Nat).length = 0 ∧ whF b = 0) := fun h => hw0 h.2
        have hwi : ((whF b : Int) == 0) = false := by simp; omega
        obtain ⟨wb, hwb⟩ : ∃ wb, whF b = wb := ⟨_, rfl⟩
        rw [hwb] at HW hwi
        clear hw0 hwb
        go_wp2_with fail
        refine (HW.out _).mono ?_
        rintro e w' ⟨rfl, rfl⟩
        clear HW
        have Hfull : Hid ((([] : List Nat) ++ [b]).length = whF (gN (([] : List Nat) ++ [b]) 0) → tkF ⟨ah, out⟩ b = ⟨[], (out ++ [65533]) ++ [(getC (([] : List Nat) ++ [b]) : Int)]⟩) := Lib.hid fun h => by
          rw [HP.out]; unfold putM; rw [if_neg hnb]; exact if_pos h
        have Hpart : Hid (¬ (([] : List Nat) ++ [b]).length = whF (gN (([] : List Nat) ++ [b]) 0) → tkF ⟨ah, out⟩ b = ⟨([] : List Nat) ++ [b], (out ++ [65533])⟩) := Lib.hid fun h => by
          rw [HP.out]; unfold putM; rw [if_neg hnb]; exact if_neg h
        have Hlt : Hid (∀ x ∈ ([] : List Nat) ++ [b], x < 256) := Lib.hid (by
          intro x hx
          rcases List.mem_append.1 hx with hx | hx
          · exact HltA.out x hx
          · obtain rfl := List.mem_singleton.1 hx; exact hb256)
        have hap := Own.apart ho ha (by decide)
        have hnA : (Value.slice A 0 c).ownBlock ≠ some g := fun e => by have := (Own.blk ha g e).1; omega
        have hbl := hb.lt
        have HBB := Lib.hid hb
        have HOO := Lib.hid ho
        have HAP := Lib.hid hap
        have HNA := Lib.hid hnA
        clear hap hnA hb ho HP hnb
        go_wp2_with (at_builtin; refine wpList_push rfl (.tmp 48) (.tmp 50) 43 rfl w0 (g + 1) 5 i8 (.int .u8 0) 1 1 Try.underlying43 hi8 hy0 hy1 hy2 rfl (by decide) A 0 c _ rfl ha #[.int .u8 b] rfl ?_ rfl ?_ ?_ heW (by omega) hbl ?_)
        · rfl
        · unfold maxLen; omega
        · omega
        · intro A2 c4 w3 hA2 hgr hor hx3
          have hb3 := HBB.out.grown hgr (fun e => HNA.out e.symm)
          have c0 := hb3.cell 0
          have f0 := hb3.frozen 0
          simp only [List.getElem?_toArray, List.getElem?_cons_zero, List.getElem?_cons_succ] at c0
          have hO3 := Own.kept HOO.out hgr HAP.out
          have hb4 : Blk (w3.setCell ⟨g, 0, none⟩ (.slice A2 1 c4)) g 58 #[.slice A2 1 c4, .slice O q' d] := by simpa using hb3.set_ 0 (.slice A2 1 c4)
          have hA4 : Own (w3.setCell ⟨g, 0, none⟩ (.slice A2 1 c4)) (g + 1) 5 1 A2 1 c4 ((([] : List Nat) ++ [b]).map bv) := by
            have := Own.setCell hA2 (p := ⟨g, 0, none⟩) (Nat.lt_succ_self g) (.slice A2 1 c4)
            simpa [bv] using this
          have ho4 : OwnI (w3.setCell ⟨g, 0, none⟩ (.slice A2 1 c4)) (g + 1) O q' d (out ++ [65533]) := Own.setCell hO3 (p := ⟨g, 0, none⟩) (Nat.lt_succ_self g) (.slice A2 1 c4)
          have hE4 := hx3.setCell (p := ⟨g, 0, none⟩) hg (.slice A2 1 c4)
          have hgz := hb3.lt
          clear hA2 hgr hor hx3 hb3 hO3 HBB HOO HAP HNA ha heW k0 k1 f1
          go_wp2_with fail
          clear c0 f0
          revert hb4 hA4 ho4 hE4
          generalize w3.setCell ⟨g, 0, none⟩ (.slice A2 1 c4) = w4
          intro hb4 hA4 ho4 hE4
          obtain ⟨bs, hbs⟩ : ∃ bs, ([] : List Nat) ++ [b] = bs := ⟨_, rfl⟩
          rw [hbs] at hA4 Hfull Hpart Hlt
          clear hbs
          have hpl : bs.length = 1 := by have := (Own.rd hA4).len; rw [List.length_map] at this; omega
          obtain ⟨ad, hAe, hca⟩ := bv_at (Own.rd hA4) (k := 0) (by omega)
          rw [add_nought] at hca
          subst hAe
          have k0 := hb4.cell 0
          have k1 := hb4.cell 1
          have f0 := hb4.frozen 0
          have f1 := hb4.frozen 1
          simp only [List.getElem?_toArray, List.getElem?_cons_zero, List.getElem?_cons_succ] at k0 k1
          have HWh := Lib.hid (whole_ok (gN bs 0))
          have hcv := conv_bytes (Rd.ext (Own.rd hA4) (Ext.drew w4))
          have HG : Hid (∀ wq, Calls Try.prog 11 #[.string (strN bs)] wq fun e w' => e = .returned (.tuple #[.int .i64 (getC bs), .int .i64 (getW bs), .int .i64 (getE bs)]) ∧ wq = w') := Lib.hid fun wq => by
            have h := get_ok (strN bs) wq
            rwa [nums_strN Hlt.out] at h
          have HB4 := Lib.hid hb4
          have HA4 := Lib.hid hA4
          have HO4 := Lib.hid ho4
          have HE4 := Lib.hid hE4
          have hpc := (Own.rd hA4).ncap
          have hpm := (Own.rd hA4).nmax
          unfold maxLen at hpm
          have hg4 := hb4.lt
          have hpl2 := Lib.hid hpl
          clear hb4 hA4 ho4 hE4 hpl
          generalize hwz : whF (gN bs 0) = wz at *
          generalize gN bs 0 = a0 at *
          have Hwz := Lib.hid hwz
          clear hwz
          go_region_held3 (fun w' => w'.cell? ⟨g, 0, none⟩ = some (.slice (some ad) 1 c4) ∧ w'.cell? ad = some (.int .u8 a0)) (first | assumption | exact ⟨k0, hca⟩)
            ((go_at_call 28; refine (HWh.out _).mono ?_; rintro e w' ⟨rfl, rfl⟩))
          by_cases hfull : 1 = wz
          · have hfi : ((1 : Int) == (wz : Int)) = true := by simp; omega
            have HR := Lib.hid (Hfull.out (by rw [hpl2.out]; exact hfull))
            generalize getC bs = gc at *
            generalize getW bs = gw at *
            generalize getE bs = ge at *
            clear hfull
            go_wp2_with fail
            refine (HG.out _).mono ?_
            rintro e w' ⟨rfl, rfl⟩
            have hown := OwnI.ext HO4.out (Ext.drew w4)
            have hE5 := HE4.out.to_drew
            have hg5 : g + 1 ≤ w4.drew.heap.size := hg4
            clear hcv hca
            go_wp2_with (at_builtin; refine wpList_push rfl (.tmp 81) (.tmp 83) 26 rfl w0 (g + 1) 3 i0 (.int .i64 0) 1 8 Try.underlying26 hi hz0 hz1 hz2 rfl (by decide) O q' d _ rfl hown #[.int .i64 gc] rfl ?_ rfl ?_ ?_ hE5 (by omega) hg5 ?_)
            · rfl
            · unfold maxLen; omega
            · omega
            · intro O2 d2 w5 hO2 hgr hor hx3
              have hne : (Value.slice O q' d).ownBlock ≠ some g := fun e => by have := (Own.blk HO4.out g e).1; omega
              have hb5 := (HB4.out.drewN 1).grown hgr (fun e => hne e.symm)
              have c0 := hb5.cell 0
              have c1 := hb5.cell 1
              have f0 := hb5.frozen 0
              have f1 := hb5.frozen 1
              simp only [List.getElem?_toArray, List.getElem?_cons_zero, List.getElem?_cons_succ] at c0 c1
              have hb6 : Blk (w5.setCell ⟨g, 1, none⟩ (.slice O2 (q' + 1) d2)) g 58 #[.slice (some ad) 1 c4, .slice O2 (q' + 1) d2] := by simpa using hb5.set_ 1 (.slice O2 (q' + 1) d2)
              have f4 := hb6.frozen 0
              have c6 := hb6.cell 0
              simp only [List.getElem?_toArray, List.getElem?_cons_zero, List.getElem?_cons_succ] at c6
              have hb7 : Blk ((w5.setCell ⟨g, 1, none⟩ (.slice O2 (q' + 1) d2)).setCell ⟨g, 0, none⟩ (.slice none 0 0)) g 58 #[.slice none 0 0, .slice O2 (q' + 1) d2] := by simpa using hb6.set_ 0 (.slice none 0 0)
              have hO5 : OwnI ((w5.setCell ⟨g, 1, none⟩ (.slice O2 (q' + 1) d2)).setCell ⟨g, 0, none⟩ (.slice none 0 0)) (g + 1) O2 (q' + 1) d2 ((out ++ [65533]) ++ [(gc : Int)]) := by
                have := Own.setCell (Own.setCell hO2 (p := ⟨g, 1, none⟩) (Nat.lt_succ_self g) (.slice O2 (q' + 1) d2)) (p := ⟨g, 0, none⟩) (Nat.lt_succ_self g) (.slice none 0 0)
                simpa [OwnI] using this
              have HX := Lib.hid ((hx3.setCell (p := ⟨g, 1, none⟩) hg (.slice O2 (q' + 1) d2)).setCell (p := ⟨g, 0, none⟩) hg (.slice none 0 0))
              have HF : Hid (MachAt ((w5.setCell ⟨g, 1, none⟩ (.slice O2 (q' + 1) d2)).setCell ⟨g, 0, none⟩ (.slice none 0 0)) g ⟨[], (out ++ [65533]) ++ [(gc : Int)]⟩) := Lib.hid ⟨none, 0, 0, O2, q' + 1, d2, hb7, Own.nil _ _ _ _, hO5⟩
              clear hO2 hgr hor hx3 hb5 hb6 hb7 hO5 hown hne k0 k1 hE5
              go_wp2_with fail
              go_end0
              exact ⟨rfl, by rw [HR.out]; exact HF.out, HX.out⟩
          · have hfi : ((1 : Int) == (wz : Int)) = false := by simp; omega
            have HR := Lib.hid (Hpart.out (by rw [hpl2.out]; exact hfull))
            have HF : Hid (MachAt w4.drew g ⟨bs, (out ++ [65533])⟩) := Lib.hid ⟨some ad, 1, c4, O, q', d, HB4.out.drewN 1, Own.ext HA4.out (Ext.drew w4), OwnI.ext HO4.out (Ext.drew w4)⟩
            clear hfull hcv hca
            go_wp2_with fail
            go_end0
            exact ⟨rfl, by rw [HR.out]; exact HF.out, HE4.out.to_drew⟩

end Go.Proofs.Ytbgegkagnahlpaa
