/-
  The law ObjectIn: the walk of the law itself.
-/
import Derived.Test.YtkjlgfokgpdliaaObjK
namespace Go.Proofs.Ytkjlgfokgpdliaa
open Go.RowKit
set_option linter.unusedVariables false

set_option maxRecDepth 100000 in
set_option maxHeartbeats 16000000 in
theorem objectIn_walk {A : Option Addr} {n c : Nat} {l : List Int} {k key : Int} {w : World} (hl : Ints w A n c l) (wl : ∀ x ∈ l, (Lit.int .i64 x).wf = true) :
    Calls Try.prog 6 #[.slice A n c, .int .i64 k, .int .i64 key] w fun e w' => e = .returned (.bool true) ∧ Ext w w' := by
  have hnc := hl.ncap
  have hcm := hl.nmax
  have hlen := Lib.hid hl.len
  have WL := Lib.hid wl
  have hx0 : Ext w ((w.alloc (.cells #[.slice A n c] 22)).alloc (.cells #[.int .i64 k] 3)) := (Ext.alloc _ _).to_alloc _
  have hb1 := (Blk.new w 22 #[.slice A n c]).ext (Ext.alloc _ (.cells #[.int .i64 k] 3))
  have hb2 : Blk ((w.alloc (.cells #[.slice A n c] 22)).alloc (.cells #[.int .i64 k] 3)) (w.heap.size + 1) 3 #[.int .i64 k] := by
    simpa using Blk.new (w.alloc (.cells #[.slice A n c] 22)) 3 #[.int .i64 k]
  clear wl
  go_enter Try.func6, Try.ntmps6
  go_wp2_with fail
  refine (of_ok _ _ (by decide)).mono ?_
  rintro e w1 ⟨B, d, rfl, hown, he1⟩
  have hB := hown.ints
  clear hown
  go_wp2_with fail
  refine (objOf_any (k := 1) (ar := true) (key := 119) hB (chars_wf _) (by decide) (.inr (by decide))).mono ?_
  rintro e w2 ⟨⟨x, y, er, hf, rfl⟩, he2⟩
  have hlit : er = 0 ∧ x = 0 ∧ y = 3 := by
    unfold ofK noKey at hf
    rcases hf with ⟨_, hf⟩ | ⟨h, _⟩ | ⟨h, _⟩ | ⟨h, _⟩ | ⟨h, _⟩
    · rcases hf with ⟨_, h2, h3, h4⟩ | ⟨h, _⟩
      · rw [oi_lit] at h3 h4
        simp at h3 h4
        exact ⟨h2, h3, h4⟩
      · exact absurd h (by decide +kernel)
    · omega
    · omega
    · omega
    · omega
  obtain ⟨rfl, rfl, rfl⟩ := hlit
  have he := (hx0.trans he1).trans he2
  have hq1 := (hb1.ext he1).ext he2
  have hq2 := (hb2.ext he1).ext he2
  have hlX := hl.ext he
  have c0 := hq1.cell 0
  have c1 := hq2.cell 0
  simp only [List.getElem?_toArray, List.getElem?_cons_zero] at c0 c1
  clear hf hB he1 he2 hx0 hb1 hb2 hl hq1 hq2
  go_wp2_with fail
  rcases Nat.lt_or_ge 4096 n with h0 | h0
  · refine (objOfA_large hnc hcm h0).mono ?_
    rintro e w3 ⟨rfl, rfl⟩
    have H2 := Lib.hid (objOfA_large (A := A) (k := k) (key := key) (ar := true) (w := w3) hnc hcm h0)
    go_wp2_with fail
    refine H2.out.mono ?_
    rintro e w4 ⟨rfl, rfl⟩
    clear H2
    go_wp2_with fail
    go_ret
    exact ⟨rfl, he⟩
  by_cases hk : k < 0 ∨ (0 < k ∧ (n : Int) ≤ k)
  · have H1 := Lib.hid (objOfA_out (A := A) (k := k) (key := key) (ar := false) (w := w2) hnc hcm h0 hk)
    have H2 := Lib.hid (objOfA_out (A := A) (k := k) (key := key) (ar := true) (w := w2) hnc hcm h0 hk)
    clear hk
    refine H1.out.mono ?_
    rintro e w3 ⟨rfl, rfl⟩
    clear H1
    go_wp2_with fail
    refine H2.out.mono ?_
    rintro e w4 ⟨rfl, rfl⟩
    clear H2
    go_wp2_with fail
    go_ret
    exact ⟨rfl, he⟩
  obtain ⟨kn, rfl⟩ := Int.eq_ofNat_of_zero_le (show 0 ≤ k by omega)
  have hkn : kn = 0 ∨ kn < n := by omega
  clear hk
  refine (objOf_any (k := kn) (ar := false) (key := key) hlX WL.out h0 hkn).mono ?_
  rintro e w3 ⟨⟨x, y, er, hf, rfl⟩, he3⟩
  have d0 := he3.cell c0
  have d1 := he3.cell c1
  have H2 := Lib.hid (objOf_any (k := kn) (ar := true) (key := key) (hlX.ext he3) WL.out h0 hkn)
  have HF := Lib.hid hf
  clear hf c0 c1 hkn
  go_wp2_with fail
  refine H2.out.mono ?_
  rintro e w4 ⟨⟨x', y', er', hf', rfl⟩, he4⟩
  have c0 := he4.cell d0
  have c1 := he4.cell d1
  have heY := he.trans (he3.trans he4)
  have hlY := hlX.ext (he3.trans he4)
  obtain ⟨⟨s1, s2, s3⟩, s4, s5⟩ := both_K HF.out hf'
  rw [hlen.out] at s3 s4
  have S2 := Lib.hid s2
  have S3 := Lib.hid s3
  have S4 := Lib.hid s4
  have S5 := Lib.hid s5
  subst s1
  clear hf' H2 HF s2 s3 s4 s5 he he3 he4 hlX d0 d1
  by_cases hz : er' = 0
  · subst hz
    obtain ⟨g1, g2, g3, g4, g5⟩ := S3.out rfl
    by_cases hw : key = 119 ∨ key = 87
    · obtain ⟨a, b, rfl, rfl, f1, f2, f3, f4⟩ := S4.out rfl hw
      have hkn : kn < n := by omega
      obtain ⟨a1, rfl, -⟩ := hlY.at_ hkn
      have hcut := hlY.cut (k := a) (m := b) (by omega) f3
      have hcut2 : Ints w4 (some (a1.add a)) (b - a) (c - a) ((l.drop a).take (b - a)) := by
        rw [if_neg (by omega)] at hcut
        exact hcut
      have hgood : Hid (∀ q, q < b - a → kindF (gI ((l.drop a).take (b - a)) q) (key == 87) = kindF (gI l kn) (key == 87)) := Lib.hid (fun q hq => by
        have e : gI ((l.drop a).take (b - a)) q = gI l (a + q) := by unfold gI; rw [List.getElem?_take, if_pos hq, List.getElem?_drop]
        have := f4 (a + q) (by omega) (by omega)
        rw [kindAt_in (by rw [hlen.out]; omega), kindAt_in (by rw [hlen.out]; omega)] at this
        rw [e]; exact this)
      have HFIN := Lib.hid (fun (w5 : World) (h5 : Ext w4 w5) (p1 : Addr) (hp : w5.cell? p1 = some (.bool (key == 87))) => oiCont_ok (p1 := p1) (p2 := ⟨w.heap.size, 0, none⟩) (p3 := ⟨w.heap.size + 1, 0, none⟩) (hcut2.ext h5) (hlY.ext h5) hkn hp (h5.cell c0) (h5.cell c1) hgood.out)
      clear f4 hcut hcut2 hgood S2 S3 S4 S5
      rcases hw with rfl | rfl
      · have c2 := (Ext.alloc w4 (.cells #[.bool false] 4)).cell c0
        have c3 := (Ext.alloc w4 (.cells #[.bool false] 4)).cell c1
        go_wp2_with fail
        refine (HFIN.out (w4.alloc (.cells #[.bool false] 4)) (Ext.alloc _ _) ⟨w4.heap.size, 0, none⟩ (by rw [show ((119 : Int) == 87) = false by decide]; exact (Blk.new w4 4 #[.bool false]).cell 0)).mono ?_
        rintro e w5 ⟨rfl, he5⟩
        clear HFIN c0 c1 c2 c3
        go_wp2_with fail
        go_ret
        exact ⟨rfl, heY.trans ((Ext.alloc _ _).trans he5)⟩
      · have c2 := (Ext.alloc w4 (.cells #[.bool true] 4)).cell c0
        have c3 := (Ext.alloc w4 (.cells #[.bool true] 4)).cell c1
        go_wp2_with fail
        refine (HFIN.out (w4.alloc (.cells #[.bool true] 4)) (Ext.alloc _ _) ⟨w4.heap.size, 0, none⟩ (by rw [show ((87 : Int) == 87) = true by decide]; exact (Blk.new w4 4 #[.bool true]).cell 0)).mono ?_
        rintro e w5 ⟨rfl, he5⟩
        clear HFIN c0 c1 c2 c3
        go_wp2_with fail
        go_ret
        exact ⟨rfl, heY.trans ((Ext.alloc _ _).trans he5)⟩
    · obtain ⟨t1, t2, t3⟩ := S5.out rfl hw
      have q1 : (key != 119) = true := by simp; omega
      have q2 : (key != 87) = true := by simp; omega
      have hxb : 0 ≤ x ∧ x ≤ 4096 := by omega
      have hyb : 0 ≤ y ∧ y ≤ 4096 := by omega
      have q3 : (x' == x - 1) = true := by simpa using t1
      have q4 : (y' == y + 1) = true := by simpa using t2
      obtain ⟨x1, x2⟩ := hxb
      obtain ⟨y1, y2⟩ := hyb
      clear t1 t2 hw S2 S3 S4 S5
      go_wp2_with fail
      all_goals
        go_ret
        exact ⟨rfl, heY⟩
  · obtain ⟨rfl, rfl, rfl, rfl⟩ := S2.out hz
    have b1 : (er' != 0) = true := by simpa using hz
    have b2 : (er' != er') = false := by simp
    clear hz S2 S3 S4 S5
    go_wp2_with fail
    go_ret
    exact ⟨rfl, heY⟩
end Go.Proofs.Ytkjlgfokgpdliaa
