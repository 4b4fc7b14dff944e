/-
  The walk of TermOwn.
-/
import Derived.Test.YthphlghblmindaaTowA
import Derived.Test.YthphlghblmindaaSpoR
import Derived.Deep.RegionHeld3
namespace Go.Proofs.Ythphlghblmindaa
open Go.RowKit
set_option linter.unusedVariables false
set_option linter.unusedSimpArgs false

theorem tow_lit : showR (chars ⟨#[97, 98]⟩, 0) [99] = (chars ⟨#[99, 98]⟩, 1) := by decide +kernel

set_option maxRecDepth 100000 in
set_option maxHeartbeats 32000000 in
theorem termOwn_walk {l l2 sg : List Int} {A B C : Option Addr} {n c q d m e : Nat} {a b : Int} {w : World} (hl : Ints w A n c l) (hm : Ints w B q d l2) (hs : Ints w C m e sg)
    (zl : n * 8 ≤ 140737488351232) (zm : q * 8 ≤ 140737488351232) (zs : m * 8 ≤ 140737488351232) :
    Calls Try.prog 9 #[.agg #[.slice A n c, .int .i64 a], .agg #[.slice B q d, .int .i64 b], .slice C m e] w fun e w' => e = .returned (.bool true) ∧ Ext w w' := by
  have hx0 : Ext w ((w.alloc (.cells #[.slice A n c, .int .i64 a] 34)).alloc (.cells #[.slice B q d, .int .i64 b] 34)) := (Ext.alloc _ _).to_alloc _
  have b2 := (Blk.new w 34 #[.slice A n c, .int .i64 a]).ext (Ext.alloc _ (.cells #[.slice B q d, .int .i64 b] 34))
  have b3 := Blk.new (w.alloc (.cells #[.slice A n c, .int .i64 a] 34)) 34 #[.slice B q d, .int .i64 b]
  rw [World.size_alloc] at b3
  have hall := And.intro (Lib.hid hx0) (And.intro (Lib.hid b2) (And.intro (Lib.hid b3) (And.intro (Lib.hid (hl.ext hx0)) (And.intro (Lib.hid (hm.ext hx0)) (Lib.hid (hs.ext hx0))))))
  have ZL := Lib.hid zl
  have ZM := Lib.hid zm
  have ZS := Lib.hid zs
  clear hx0 b2 b3 hl hm hs zl zm zs
  go_enter Try.func9, Try.ntmps9
  go_upto_region 1 with fail
  revert hall
  generalize (w.alloc (.cells #[.slice A n c, .int .i64 a] 34)).alloc (.cells #[.slice B q d, .int .i64 b] 34) = W
  obtain ⟨p3, hp2⟩ : ∃ p3, w.heap.size = p3 := ⟨_, rfl⟩
  obtain ⟨p4, hp3⟩ : ∃ p4, w.heap.size + 1 = p4 := ⟨_, rfl⟩
  rw [hp3, hp2]
  clear hp2 hp3
  rintro ⟨HX, b2, b3, HL, HM, HSG⟩
  go_wp2_with fail
  refine (row_made _ _ _ (by decide)).mono ?_
  rintro e' w1 ⟨⟨A1, c1, rfl, ho1⟩, he1⟩
  have HSH := Lib.hid (show_ok (a := 0) (ho1.ints.ext (Ext.alloc _ _)) (own_cap ho1) (Ints.litAt w1 3 [99] rfl rfl (Nat.le_of_ble_eq_true rfl)) (rowOk_lit (by decide) (by decide) (by decide) (by decide +kernel) (by decide +kernel)))
  rw [tow_lit] at HSH
  have HE1 := Lib.hid (he1.trans (Ext.alloc w1 (.cells #[.int .i64 99] 3)))
  clear ho1 he1
  go_wp2_with fail
  refine HSH.out.mono ?_
  rintro e' w2 ⟨⟨s2, d2, rfl, ho2⟩, he2⟩
  have HE3 := Lib.hid (HE1.out.trans (he2.trans (Ext.alloc w2 (.cells #[.slice (some ⟨s2, 0, none⟩) 2 d2, .int .i64 1] 34))))
  have HB7 := Lib.hid (Blk.new w2 34 #[.slice (some ⟨s2, 0, none⟩) 2 d2, .int .i64 1])
  have HI7 := Lib.hid (ho2.ints.ext (Ext.alloc w2 (.cells #[.slice (some ⟨s2, 0, none⟩) 2 d2, .int .i64 1] 34)))
  clear HSH ho2 he2 HE1
  go_upto_region 2 with fail
  revert HE3 HB7 HI7
  generalize w2.alloc (.cells #[.slice (some ⟨s2, 0, none⟩) 2 d2, .int .i64 ((1 : Nat) : Int)] 34) = w3
  generalize w2.heap.size = p7
  intro HE3 HB7 HI7
  obtain ⟨k70, k71⟩ := cells2 HB7.out
  have hxd := Ext.drew w3
  have K7 : Hid (∀ wq, Ext w3 wq → wq.cell? ⟨p7, 0, none⟩ = some (.slice (some ⟨s2, 0, none⟩) 2 d2) ∧ wq.cell? ⟨p7, 1, none⟩ = some (.int .i64 1)) := Lib.hid fun wq h => ⟨h.cell k70, h.cell k71⟩
  go_region_held3 (fun w' => w'.cell? ⟨p7, 0, none⟩ = some (.slice (some ⟨s2, 0, none⟩) 2 d2) ∧ w'.cell? ⟨p7, 1, none⟩ = some (.int .i64 1)) (first | assumption | exact ⟨k70, k71⟩ | exact K7.out _ (by assumption)) (first
    | (go_at_call 15
       refine (row_made _ _ _ (by decide)).mono ?_
       rintro e' wa ⟨⟨B1, e1, rfl, hoa⟩, hea⟩
       have hxa := hxd.trans hea)
    | (go_at_call 16
       refine (sameRow_ok (a := 1) (HI7.out.ext hxa) hoa.ints).mono ?_
       rintro e' wb ⟨rfl, heb⟩
       have hxb := hxa.trans heb))
  have HXw := Lib.hid (HE3.out.trans hxb)
  have HB3 := Lib.hid (b2.out.ext HXw.out)
  have HB4 := Lib.hid (b3.out.ext HXw.out)
  have HL1 := Lib.hid (HL.out.ext HXw.out)
  have HM1 := Lib.hid (HM.out.ext HXw.out)
  have HS1 := Lib.hid (HSG.out.ext HXw.out)
  have HXX := Lib.hid (HX.out.trans HXw.out)
  clear HE3 HB7 HI7 k70 k71 hxd K7 hoa hea hxa heb hxb HX b2 b3 HL HM HSG HXw
  rename World => W1
  obtain ⟨k30, k31⟩ := cells2 HB3.out
  obtain ⟨k40, k41⟩ := cells2 HB4.out
  have KS : Hid (∀ wq, Ext W1 wq → (wq.cell? ⟨p3, 0, none⟩ = some (.slice A n c) ∧ wq.cell? ⟨p3, 1, none⟩ = some (.int .i64 a)) ∧ (wq.cell? ⟨p4, 0, none⟩ = some (.slice B q d) ∧ wq.cell? ⟨p4, 1, none⟩ = some (.int .i64 b))) := Lib.hid fun wq h => ⟨⟨h.cell k30, h.cell k31⟩, ⟨h.cell k40, h.cell k41⟩⟩
  have HP1 : Hid (∀ {wq : World}, Ext W1 wq → Calls Try.prog 18 #[.slice A n c, .int .i64 77] wq fun e w' => ∃ v, e = .returned v ∧ Amp w' wq.heap.size v l 77 ∧ Ext wq w') := Lib.hid fun h => ample_ok (HL1.out.ext h) ZL.out
  have HP2 : Hid (∀ {wq : World}, Ext W1 wq → Calls Try.prog 18 #[.slice B q d, .int .i64 77] wq fun e w' => ∃ v, e = .returned v ∧ Amp w' wq.heap.size v l2 77 ∧ Ext wq w') := Lib.hid fun h => ample_ok (HM1.out.ext h) ZM.out
  have HP3 : Hid (∀ {wq : World}, Ext W1 wq → Calls Try.prog 18 #[.slice C m e, .int .i64 77] wq fun e w' => ∃ v, e = .returned v ∧ Amp w' wq.heap.size v sg 77 ∧ Ext wq w') := Lib.hid fun h => ample_ok (HS1.out.ext h) ZS.out
  go_upto_region 4 with fail
  go_cut [9, 10, 11] (fun s9 s10 s11 wx => ∃ g9 g10 A1 n1 c1 A2 n2 c2 A3 n3 c3, s9 = .pointer (some ⟨g9, 0, none⟩) ∧ s10 = .pointer (some ⟨g10, 0, none⟩) ∧ s11 = .slice (some A3) n3 c3 ∧
    Hid (Blk wx g9 34 #[.slice (some A1) n1 c1, .int .i64 a]) ∧ Hid (Blk wx g10 34 #[.slice (some A2) n2 c2, .int .i64 b]) ∧
    Hid (Amp wx W1.heap.size (.slice (some A1) n1 c1) l 77) ∧ Hid (Amp wx W1.heap.size (.slice (some A2) n2 c2) l2 77) ∧ Hid (Amp wx W1.heap.size (.slice (some A3) n3 c3) sg 77) ∧ Hid (Ext W1 wx))
  case first =>
    refine wp_region_held_drew (S := fun w' => (w'.cell? ⟨p3, 0, none⟩ = some (.slice A n c) ∧ w'.cell? ⟨p3, 1, none⟩ = some (.int .i64 a)) ∧ (w'.cell? ⟨p4, 0, none⟩ = some (.slice B q d) ∧ w'.cell? ⟨p4, 1, none⟩ = some (.int .i64 b))) (by kernel_rfl) (KS.out _ (Ext.drew W1)) (fun hHeld => ?_)
    have hxx0 : Ext W1 W1.drew := Ext.drew W1
    revert hHeld hxx0
    generalize W1.drew = x0
    intro hHeld hxx0
    refine wpAnyH_take (i := 0) (v := (.pointer (some ⟨p3, 0, none⟩))) rfl (by kernel_rfl) (by kernel_rfl) (by kernel_rfl) (fun _ _ _ h => h) (Or.inl ⟨by rfl, by (intro w hSw; obtain ⟨⟨hs1, hs2⟩, ⟨hs3, hs4⟩⟩ := hSw; go_simp)⟩) hHeld ?_
    simp only [List.getElem_toArray, List.getElem_cons_zero, List.getElem_cons_succ, Act.put, List.setIfInBounds_toArray, List.set_cons_zero, List.set_cons_succ]
    refine wpAnyH_take (i := 1) (v := (.slice A n c)) rfl (by kernel_rfl) (by kernel_rfl) (by kernel_rfl) (fun _ _ _ h => h) (Or.inl ⟨by rfl, by (intro w hSw; obtain ⟨⟨hs1, hs2⟩, ⟨hs3, hs4⟩⟩ := hSw; go_simp)⟩) hHeld ?_
    simp only [List.getElem_toArray, List.getElem_cons_zero, List.getElem_cons_succ, Act.put, List.setIfInBounds_toArray, List.set_cons_zero, List.set_cons_succ]
    refine wpAnyH_take (i := 3) (v := (.pointer (some ⟨p3, 1, none⟩))) rfl (by kernel_rfl) (by kernel_rfl) (by kernel_rfl) (fun _ _ _ h => h) (Or.inl ⟨by rfl, by (intro w hSw; obtain ⟨⟨hs1, hs2⟩, ⟨hs3, hs4⟩⟩ := hSw; go_simp)⟩) hHeld ?_
    simp only [List.getElem_toArray, List.getElem_cons_zero, List.getElem_cons_succ, Act.put, List.setIfInBounds_toArray, List.set_cons_zero, List.set_cons_succ]
    refine wpAnyH_take (i := 4) (v := (.int .i64 a)) rfl (by kernel_rfl) (by kernel_rfl) (by kernel_rfl) (fun _ _ _ h => h) (Or.inl ⟨by rfl, by (intro w hSw; obtain ⟨⟨hs1, hs2⟩, ⟨hs3, hs4⟩⟩ := hSw; go_simp)⟩) hHeld ?_
    simp only [List.getElem_toArray, List.getElem_cons_zero, List.getElem_cons_succ, Act.put, List.setIfInBounds_toArray, List.set_cons_zero, List.set_cons_succ]
    refine wpAnyH_take (i := 6) (v := (.pointer (some ⟨p4, 0, none⟩))) rfl (by kernel_rfl) (by kernel_rfl) (by kernel_rfl) (fun _ _ _ h => h) (Or.inl ⟨by rfl, by (intro w hSw; obtain ⟨⟨hs1, hs2⟩, ⟨hs3, hs4⟩⟩ := hSw; go_simp)⟩) hHeld ?_
    simp only [List.getElem_toArray, List.getElem_cons_zero, List.getElem_cons_succ, Act.put, List.setIfInBounds_toArray, List.set_cons_zero, List.set_cons_succ]
    refine wpAnyH_take (i := 7) (v := (.slice B q d)) rfl (by kernel_rfl) (by kernel_rfl) (by kernel_rfl) (fun _ _ _ h => h) (Or.inl ⟨by rfl, by (intro w hSw; obtain ⟨⟨hs1, hs2⟩, ⟨hs3, hs4⟩⟩ := hSw; go_simp)⟩) hHeld ?_
    simp only [List.getElem_toArray, List.getElem_cons_zero, List.getElem_cons_succ, Act.put, List.setIfInBounds_toArray, List.set_cons_zero, List.set_cons_succ]
    refine wpAnyH_take (i := 9) (v := (.pointer (some ⟨p4, 1, none⟩))) rfl (by kernel_rfl) (by kernel_rfl) (by kernel_rfl) (fun _ _ _ h => h) (Or.inl ⟨by rfl, by (intro w hSw; obtain ⟨⟨hs1, hs2⟩, ⟨hs3, hs4⟩⟩ := hSw; go_simp)⟩) hHeld ?_
    simp only [List.getElem_toArray, List.getElem_cons_zero, List.getElem_cons_succ, Act.put, List.setIfInBounds_toArray, List.set_cons_zero, List.set_cons_succ]
    refine wpAnyH_take (i := 10) (v := (.int .i64 b)) rfl (by kernel_rfl) (by kernel_rfl) (by kernel_rfl) (fun _ _ _ h => h) (Or.inl ⟨by rfl, by (intro w hSw; obtain ⟨⟨hs1, hs2⟩, ⟨hs3, hs4⟩⟩ := hSw; go_simp)⟩) hHeld ?_
    simp only [List.getElem_toArray, List.getElem_cons_zero, List.getElem_cons_succ, Act.put, List.setIfInBounds_toArray, List.set_cons_zero, List.set_cons_succ]
    refine wpAnyH_take (i := 12) (v := (.slice C m e)) rfl (by kernel_rfl) (by kernel_rfl) (by kernel_rfl) (fun _ _ _ h => h) (Or.inl ⟨by rfl, by (intro w hSw; obtain ⟨⟨hs1, hs2⟩, ⟨hs3, hs4⟩⟩ := hSw; go_simp)⟩) hHeld ?_
    simp only [List.getElem_toArray, List.getElem_cons_zero, List.getElem_cons_succ, Act.put, List.setIfInBounds_toArray, List.set_cons_zero, List.set_cons_succ]
    refine wpAnyH_ready (rs := [2, 14, 15]) (by kernel_rfl) (by simp) ?_
    refine (AllReadyH.cons rfl (fun K hK => ?_) (AllReadyH.cons rfl (fun K hK => ?_) (AllReadyH.cons rfl (fun K hK => ?_) AllReadyH.nil)))
    · refine step_callf rfl 18 #[.slice A n c, .int .i64 77] rfl (by kernel_rfl) (fun v w' => Amp w' x0.heap.size v l 77 ∧ Ext x0 w') ((HP1.out hxx0).mono fun e w' ⟨v, h1, h2, h3⟩ => ⟨v, h1, h2, h3⟩) ?_
      rintro v1 x1 ⟨hA1, hEx1⟩
      have hxx1 := hxx0.trans hEx1
      have hA1 := hA1.lower hxx0.hsize
      obtain ⟨A1, n1, c1, rfl⟩ := amp_slice hA1
      refine hK.out _ _ (KS.out _ hxx1) (fun hHeld => ?_)
      clear hK K
      clear hEx1
      simp only [List.getElem_toArray, List.getElem_cons_zero, List.getElem_cons_succ, Act.put, List.setIfInBounds_toArray, List.set_cons_zero, List.set_cons_succ]
      refine wpAnyH_take (i := 5) (v := (.agg #[.slice (some A1) n1 c1, .int .i64 a])) rfl (by kernel_rfl) (by kernel_rfl) (by kernel_rfl) (fun _ _ _ h => h) (Or.inl ⟨by rfl, by (intro w hSw; obtain ⟨⟨hs1, hs2⟩, ⟨hs3, hs4⟩⟩ := hSw; go_simp)⟩) hHeld ?_
      simp only [List.getElem_toArray, List.getElem_cons_zero, List.getElem_cons_succ, Act.put, List.setIfInBounds_toArray, List.set_cons_zero, List.set_cons_succ]
      refine wpAnyH_ready (rs := [8, 14, 15]) (by kernel_rfl) (by simp) ?_
      refine (AllReadyH.cons rfl (fun K hK => ?_) (AllReadyH.cons rfl (fun K hK => ?_) (AllReadyH.cons rfl (fun K hK => ?_) AllReadyH.nil)))
      · refine step_callf rfl 18 #[.slice B q d, .int .i64 77] rfl (by kernel_rfl) (fun v w' => Amp w' x1.heap.size v l2 77 ∧ Ext x1 w') ((HP2.out hxx1).mono fun e w' ⟨v, h1, h2, h3⟩ => ⟨v, h1, h2, h3⟩) ?_
        rintro v2 x2 ⟨hA2, hEx2⟩
        have hxx2 := hxx1.trans hEx2
        have hA1 := hA1.ext hEx2
        have hA2 := hA2.lower hxx1.hsize
        obtain ⟨A2, n2, c2, rfl⟩ := amp_slice hA2
        refine hK.out _ _ (KS.out _ hxx2) (fun hHeld => ?_)
        clear hK K
        clear hEx2
        simp only [List.getElem_toArray, List.getElem_cons_zero, List.getElem_cons_succ, Act.put, List.setIfInBounds_toArray, List.set_cons_zero, List.set_cons_succ]
        refine wpAnyH_take (i := 11) (v := (.agg #[.slice (some A2) n2 c2, .int .i64 b])) rfl (by kernel_rfl) (by kernel_rfl) (by kernel_rfl) (fun _ _ _ h => h) (Or.inl ⟨by rfl, by (intro w hSw; obtain ⟨⟨hs1, hs2⟩, ⟨hs3, hs4⟩⟩ := hSw; go_simp)⟩) hHeld ?_
        simp only [List.getElem_toArray, List.getElem_cons_zero, List.getElem_cons_succ, Act.put, List.setIfInBounds_toArray, List.set_cons_zero, List.set_cons_succ]
        refine wpAnyH_ready (rs := [13, 14, 15]) (by kernel_rfl) (by simp) ?_
        refine (AllReadyH.cons rfl (fun K hK => ?_) (AllReadyH.cons rfl (fun K hK => ?_) (AllReadyH.cons rfl (fun K hK => ?_) AllReadyH.nil)))
        · refine step_callf rfl 18 #[.slice C m e, .int .i64 77] rfl (by kernel_rfl) (fun v w' => Amp w' x2.heap.size v sg 77 ∧ Ext x2 w') ((HP3.out hxx2).mono fun e w' ⟨v, h1, h2, h3⟩ => ⟨v, h1, h2, h3⟩) ?_
          rintro v3 x3 ⟨hA3, hEx3⟩
          have hxx3 := hxx2.trans hEx3
          have hA1 := hA1.ext hEx3
          have hA2 := hA2.ext hEx3
          have hA3 := hA3.lower hxx2.hsize
          obtain ⟨A3, n3, c3, rfl⟩ := amp_slice hA3
          refine hK.out _ _ (KS.out _ hxx3) (fun hHeld => ?_)
          clear hK K
          clear hEx3
          simp only [List.getElem_toArray, List.getElem_cons_zero, List.getElem_cons_succ, Act.put, List.setIfInBounds_toArray, List.set_cons_zero, List.set_cons_succ]
          refine wpAnyH_ready (rs := [14, 15]) (by kernel_rfl) (by simp) ?_
          refine (AllReadyH.cons rfl (fun K hK => ?_) (AllReadyH.cons rfl (fun K hK => ?_) AllReadyH.nil))
          · go_simp
            have hEx4 : Ext x3 (x3.alloc (.cells #[.slice none 0 0, .int .i64 0] 34)) := Ext.alloc _ _
            have hB9 : Blk (x3.alloc (.cells #[.slice none 0 0, .int .i64 0] 34)) x3.heap.size 34 #[.slice none 0 0, .int .i64 0] := Blk.new _ _ _
            have hG9 : W1.heap.size ≤ x3.heap.size := hxx3.hsize
            have hN1_9 : ∀ q, (Value.slice (some A1) n1 c1).ownBlock = some q → q ≠ x3.heap.size := fun q hq => by have h1 := (hA1.blk q hq).2; omega
            have hN2_9 : ∀ q, (Value.slice (some A2) n2 c2).ownBlock = some q → q ≠ x3.heap.size := fun q hq => by have h1 := (hA2.blk q hq).2; omega
            have hN3_9 : ∀ q, (Value.slice (some A3) n3 c3).ownBlock = some q → q ≠ x3.heap.size := fun q hq => by have h1 := (hA3.blk q hq).2; omega
            have hall := And.intro hEx4 (And.intro hB9 (And.intro hG9 (And.intro hN1_9 (And.intro hN2_9 (hN3_9)))))
            clear hEx4 hB9 hG9 hN1_9 hN2_9 hN3_9
            revert hall
            generalize x3.alloc (.cells #[.slice none 0 0, .int .i64 0] 34) = x4
            generalize x3.heap.size = g9
            rintro ⟨hEx4, hB9, hG9, hN1_9, hN2_9, hN3_9⟩
            have hxx4 := hxx3.trans hEx4
            have hA1 := hA1.ext hEx4
            have hA2 := hA2.ext hEx4
            have hA3 := hA3.ext hEx4
            refine hK.out _ _ (KS.out _ hxx4) (fun hHeld => ?_)
            clear hK K
            clear hEx4
            try simp only [List.getElem_toArray, List.getElem_cons_zero, List.getElem_cons_succ, Act.put, List.setIfInBounds_toArray, List.set_cons_zero, List.set_cons_succ]
            refine wpAnyH_ready (rs := [15]) (by kernel_rfl) (by simp) ?_
            refine (AllReadyH.cons rfl (fun K hK => ?_) AllReadyH.nil)
            · go_simp
              have hEx5 : Ext x4 (x4.alloc (.cells #[.slice none 0 0, .int .i64 0] 34)) := Ext.alloc _ _
              have hB10 : Blk (x4.alloc (.cells #[.slice none 0 0, .int .i64 0] 34)) x4.heap.size 34 #[.slice none 0 0, .int .i64 0] := Blk.new _ _ _
              have hG10 : W1.heap.size ≤ x4.heap.size := hxx4.hsize
              have hN1_10 : ∀ q, (Value.slice (some A1) n1 c1).ownBlock = some q → q ≠ x4.heap.size := fun q hq => by have h1 := (hA1.blk q hq).2; omega
              have hN2_10 : ∀ q, (Value.slice (some A2) n2 c2).ownBlock = some q → q ≠ x4.heap.size := fun q hq => by have h1 := (hA2.blk q hq).2; omega
              have hN3_10 : ∀ q, (Value.slice (some A3) n3 c3).ownBlock = some q → q ≠ x4.heap.size := fun q hq => by have h1 := (hA3.blk q hq).2; omega
              have hD : g9 ≠ x4.heap.size := by have := hB9.lt; omega
              have hall := And.intro hEx5 (And.intro hB10 (And.intro hG10 (And.intro hN1_10 (And.intro hN2_10 (And.intro hN3_10 (hD))))))
              clear hEx5 hB10 hG10 hN1_10 hN2_10 hN3_10 hD
              revert hall
              generalize x4.alloc (.cells #[.slice none 0 0, .int .i64 0] 34) = x5
              generalize x4.heap.size = g10
              rintro ⟨hEx5, hB10, hG10, hN1_10, hN2_10, hN3_10, hD⟩
              have hxx5 := hxx4.trans hEx5
              have hA1 := hA1.ext hEx5
              have hA2 := hA2.ext hEx5
              have hA3 := hA3.ext hEx5
              have hB9 := hB9.ext hEx5
              refine hK.out _ _ (KS.out _ hxx5) (fun hHeld => ?_)
              clear hK K
              clear hEx5
              try simp only [List.getElem_toArray, List.getElem_cons_zero, List.getElem_cons_succ, Act.put, List.setIfInBounds_toArray, List.set_cons_zero, List.set_cons_succ]
              have hD9 : g9 ≠ g10 := by first | exact hD | exact fun e => hD e.symm
              have hD10 : g10 ≠ g9 := fun e => hD9 e.symm
              obtain ⟨d0, d1⟩ := cells2 hB9
              obtain ⟨f0, f1⟩ := frozen2 hB9
              refine wpAnyH_ready (rs := [16]) (by kernel_rfl) (by simp) ?_
              refine (AllReadyH.cons rfl (fun K hK => ?_) AllReadyH.nil)
              go_simp
              have hxx5s := st2_ext hxx5 hG9 (.slice (some A1) n1 c1) (.int .i64 a)
              have hB10 := st2_farE hB10 hD9 (.slice (some A1) n1 c1) (.int .i64 a)
              have hB9 := st2_blk hB9 (.slice (some A1) n1 c1) (.int .i64 a)
              have hA1 := amp_st2 hA1 hN1_9 (.slice (some A1) n1 c1) (.int .i64 a)
              have hA2 := amp_st2 hA2 hN2_9 (.slice (some A1) n1 c1) (.int .i64 a)
              have hA3 := amp_st2 hA3 hN3_9 (.slice (some A1) n1 c1) (.int .i64 a)
              unfold st2 at hxx5s hB9 hB10 hA1 hA2 hA3
              refine hK.out _ _ (KS.out _ hxx5s) (fun hHeld => ?_)
              clear hK K d0 d1 f0 f1
              have hall := And.intro hxx5s (And.intro hB9 (And.intro hB10 (And.intro hA1 (And.intro hA2 (And.intro hA3 hHeld)))))
              clear hxx5s hB9 hB10 hA1 hA2 hA3 hHeld
              revert hall
              generalize (x5.setCell ⟨g9, 0, none⟩ (.slice (some A1) n1 c1)).setCell ⟨g9, 1, none⟩ (.int .i64 a) = x5s
              rintro ⟨hxx5s, hB9, hB10, hA1, hA2, hA3, hHeld⟩
              try simp only [List.getElem_toArray, List.getElem_cons_zero, List.getElem_cons_succ, Act.put, List.setIfInBounds_toArray, List.set_cons_zero, List.set_cons_succ]
              obtain ⟨d0, d1⟩ := cells2 hB10
              obtain ⟨f0, f1⟩ := frozen2 hB10
              refine wpAnyH_ready (rs := [17]) (by kernel_rfl) (by simp) ?_
              refine (AllReadyH.cons rfl (fun K hK => ?_) AllReadyH.nil)
              go_simp
              have hxx5ss := st2_ext hxx5s hG10 (.slice (some A2) n2 c2) (.int .i64 b)
              have hB9 := st2_farE hB9 hD10 (.slice (some A2) n2 c2) (.int .i64 b)
              have hB10 := st2_blk hB10 (.slice (some A2) n2 c2) (.int .i64 b)
              have hA1 := amp_st2 hA1 hN1_10 (.slice (some A2) n2 c2) (.int .i64 b)
              have hA2 := amp_st2 hA2 hN2_10 (.slice (some A2) n2 c2) (.int .i64 b)
              have hA3 := amp_st2 hA3 hN3_10 (.slice (some A2) n2 c2) (.int .i64 b)
              unfold st2 at hxx5ss hB9 hB10 hA1 hA2 hA3
              refine hK.out _ _ (KS.out _ hxx5ss) (fun hHeld => ?_)
              clear hK K d0 d1 f0 f1
              have hall := And.intro hxx5ss (And.intro hB9 (And.intro hB10 (And.intro hA1 (And.intro hA2 (And.intro hA3 hHeld)))))
              clear hxx5ss hB9 hB10 hA1 hA2 hA3 hHeld
              revert hall
              generalize (x5s.setCell ⟨g10, 0, none⟩ (.slice (some A2) n2 c2)).setCell ⟨g10, 1, none⟩ (.int .i64 b) = x5ss
              rintro ⟨hxx5ss, hB9, hB10, hA1, hA2, hA3, hHeld⟩
              try simp only [List.getElem_toArray, List.getElem_cons_zero, List.getElem_cons_succ, Act.put, List.setIfInBounds_toArray, List.set_cons_zero, List.set_cons_succ]
              refine wpAnyH_take (i := 18) (v := (.slice (some A3) n3 c3)) rfl (by kernel_rfl) (by kernel_rfl) (by kernel_rfl) (fun _ _ _ h => h) (Or.inl ⟨by rfl, by (intro w hSw; obtain ⟨⟨hs1, hs2⟩, ⟨hs3, hs4⟩⟩ := hSw; go_simp)⟩) hHeld ?_
              simp only [List.getElem_toArray, List.getElem_cons_zero, List.getElem_cons_succ, Act.put, List.setIfInBounds_toArray, List.set_cons_zero, List.set_cons_succ]
              refine wpAnyH_done (by kernel_rfl) ?_ _
              have HF := Lib.hid (And.intro hB9 (And.intro hB10 (And.intro hA1 (And.intro hA2 (And.intro hA3 hxx5ss)))))
              clear hB9 hB10 hA1 hA2 hA3 hHeld hN1_9 hN2_9 hN3_9 hN1_10 hN2_10 hN3_10
              go_wp2_with fail
              go_meet
              exact ⟨g9, g10, A1, n1, c1, A2, n2, c2, A3, n3, c3, rfl, rfl, rfl, Lib.hid HF.out.1, Lib.hid HF.out.2.1, Lib.hid HF.out.2.2.1, Lib.hid HF.out.2.2.2.1, Lib.hid HF.out.2.2.2.2.1, Lib.hid HF.out.2.2.2.2.2⟩
          · go_simp
            have hEx4 : Ext x3 (x3.alloc (.cells #[.slice none 0 0, .int .i64 0] 34)) := Ext.alloc _ _
            have hB10 : Blk (x3.alloc (.cells #[.slice none 0 0, .int .i64 0] 34)) x3.heap.size 34 #[.slice none 0 0, .int .i64 0] := Blk.new _ _ _
            have hG10 : W1.heap.size ≤ x3.heap.size := hxx3.hsize
            have hN1_10 : ∀ q, (Value.slice (some A1) n1 c1).ownBlock = some q → q ≠ x3.heap.size := fun q hq => by have h1 := (hA1.blk q hq).2; omega
            have hN2_10 : ∀ q, (Value.slice (some A2) n2 c2).ownBlock = some q → q ≠ x3.heap.size := fun q hq => by have h1 := (hA2.blk q hq).2; omega
            have hN3_10 : ∀ q, (Value.slice (some A3) n3 c3).ownBlock = some q → q ≠ x3.heap.size := fun q hq => by have h1 := (hA3.blk q hq).2; omega
            have hall := And.intro hEx4 (And.intro hB10 (And.intro hG10 (And.intro hN1_10 (And.intro hN2_10 (hN3_10)))))
            clear hEx4 hB10 hG10 hN1_10 hN2_10 hN3_10
            revert hall
            generalize x3.alloc (.cells #[.slice none 0 0, .int .i64 0] 34) = x4
            generalize x3.heap.size = g10
            rintro ⟨hEx4, hB10, hG10, hN1_10, hN2_10, hN3_10⟩
            have hxx4 := hxx3.trans hEx4
            have hA1 := hA1.ext hEx4
            have hA2 := hA2.ext hEx4
            have hA3 := hA3.ext hEx4
            refine hK.out _ _ (KS.out _ hxx4) (fun hHeld => ?_)
            clear hK K
            clear hEx4
            try simp only [List.getElem_toArray, List.getElem_cons_zero, List.getElem_cons_succ, Act.put, List.setIfInBounds_toArray, List.set_cons_zero, List.set_cons_succ]
            refine wpAnyH_ready (rs := [14]) (by kernel_rfl) (by simp) ?_
            refine (AllReadyH.cons rfl (fun K hK => ?_) AllReadyH.nil)
            · go_simp
              have hEx5 : Ext x4 (x4.alloc (.cells #[.slice none 0 0, .int .i64 0] 34)) := Ext.alloc _ _
              have hB9 : Blk (x4.alloc (.cells #[.slice none 0 0, .int .i64 0] 34)) x4.heap.size 34 #[.slice none 0 0, .int .i64 0] := Blk.new _ _ _
              have hG9 : W1.heap.size ≤ x4.heap.size := hxx4.hsize
              have hN1_9 : ∀ q, (Value.slice (some A1) n1 c1).ownBlock = some q → q ≠ x4.heap.size := fun q hq => by have h1 := (hA1.blk q hq).2; omega
              have hN2_9 : ∀ q, (Value.slice (some A2) n2 c2).ownBlock = some q → q ≠ x4.heap.size := fun q hq => by have h1 := (hA2.blk q hq).2; omega
              have hN3_9 : ∀ q, (Value.slice (some A3) n3 c3).ownBlock = some q → q ≠ x4.heap.size := fun q hq => by have h1 := (hA3.blk q hq).2; omega
              have hD : g10 ≠ x4.heap.size := by have := hB10.lt; omega
              have hall := And.intro hEx5 (And.intro hB9 (And.intro hG9 (And.intro hN1_9 (And.intro hN2_9 (And.intro hN3_9 (hD))))))
              clear hEx5 hB9 hG9 hN1_9 hN2_9 hN3_9 hD
              revert hall
              generalize x4.alloc (.cells #[.slice none 0 0, .int .i64 0] 34) = x5
              generalize x4.heap.size = g9
              rintro ⟨hEx5, hB9, hG9, hN1_9, hN2_9, hN3_9, hD⟩
              have hxx5 := hxx4.trans hEx5
              have hA1 := hA1.ext hEx5
              have hA2 := hA2.ext hEx5
              have hA3 := hA3.ext hEx5
              have hB10 := hB10.ext hEx5
              refine hK.out _ _ (KS.out _ hxx5) (fun hHeld => ?_)
              clear hK K
              clear hEx5
              try simp only [List.getElem_toArray, List.getElem_cons_zero, List.getElem_cons_succ, Act.put, List.setIfInBounds_toArray, List.set_cons_zero, List.set_cons_succ]
              have hD9 : g9 ≠ g10 := by first | exact hD | exact fun e => hD e.symm
              have hD10 : g10 ≠ g9 := fun e => hD9 e.symm
              obtain ⟨d0, d1⟩ := cells2 hB9
              obtain ⟨f0, f1⟩ := frozen2 hB9
              refine wpAnyH_ready (rs := [16]) (by kernel_rfl) (by simp) ?_
              refine (AllReadyH.cons rfl (fun K hK => ?_) AllReadyH.nil)
              go_simp
              have hxx5s := st2_ext hxx5 hG9 (.slice (some A1) n1 c1) (.int .i64 a)
              have hB10 := st2_farE hB10 hD9 (.slice (some A1) n1 c1) (.int .i64 a)
              have hB9 := st2_blk hB9 (.slice (some A1) n1 c1) (.int .i64 a)
              have hA1 := amp_st2 hA1 hN1_9 (.slice (some A1) n1 c1) (.int .i64 a)
              have hA2 := amp_st2 hA2 hN2_9 (.slice (some A1) n1 c1) (.int .i64 a)
              have hA3 := amp_st2 hA3 hN3_9 (.slice (some A1) n1 c1) (.int .i64 a)
              unfold st2 at hxx5s hB9 hB10 hA1 hA2 hA3
              refine hK.out _ _ (KS.out _ hxx5s) (fun hHeld => ?_)
              clear hK K d0 d1 f0 f1
              have hall := And.intro hxx5s (And.intro hB9 (And.intro hB10 (And.intro hA1 (And.intro hA2 (And.intro hA3 hHeld)))))
              clear hxx5s hB9 hB10 hA1 hA2 hA3 hHeld
              revert hall
              generalize (x5.setCell ⟨g9, 0, none⟩ (.slice (some A1) n1 c1)).setCell ⟨g9, 1, none⟩ (.int .i64 a) = x5s
              rintro ⟨hxx5s, hB9, hB10, hA1, hA2, hA3, hHeld⟩
              try simp only [List.getElem_toArray, List.getElem_cons_zero, List.getElem_cons_succ, Act.put, List.setIfInBounds_toArray, List.set_cons_zero, List.set_cons_succ]
              obtain ⟨d0, d1⟩ := cells2 hB10
              obtain ⟨f0, f1⟩ := frozen2 hB10
              refine wpAnyH_ready (rs := [17]) (by kernel_rfl) (by simp) ?_
              refine (AllReadyH.cons rfl (fun K hK => ?_) AllReadyH.nil)
              go_simp
              have hxx5ss := st2_ext hxx5s hG10 (.slice (some A2) n2 c2) (.int .i64 b)
              have hB9 := st2_farE hB9 hD10 (.slice (some A2) n2 c2) (.int .i64 b)
              have hB10 := st2_blk hB10 (.slice (some A2) n2 c2) (.int .i64 b)
              have hA1 := amp_st2 hA1 hN1_10 (.slice (some A2) n2 c2) (.int .i64 b)
              have hA2 := amp_st2 hA2 hN2_10 (.slice (some A2) n2 c2) (.int .i64 b)
              have hA3 := amp_st2 hA3 hN3_10 (.slice (some A2) n2 c2) (.int .i64 b)
              unfold st2 at hxx5ss hB9 hB10 hA1 hA2 hA3
              refine hK.out _ _ (KS.out _ hxx5ss) (fun hHeld => ?_)
              clear hK K d0 d1 f0 f1
              have hall := And.intro hxx5ss (And.intro hB9 (And.intro hB10 (And.intro hA1 (And.intro hA2 (And.intro hA3 hHeld)))))
              clear hxx5ss hB9 hB10 hA1 hA2 hA3 hHeld
              revert hall
              generalize (x5s.setCell ⟨g10, 0, none⟩ (.slice (some A2) n2 c2)).setCell ⟨g10, 1, none⟩ (.int .i64 b) = x5ss
              rintro ⟨hxx5ss, hB9, hB10, hA1, hA2, hA3, hHeld⟩
              try simp only [List.getElem_toArray, List.getElem_cons_zero, List.getElem_cons_succ, Act.put, List.setIfInBounds_toArray, List.set_cons_zero, List.set_cons_succ]
              refine wpAnyH_take (i := 18) (v := (.slice (some A3) n3 c3)) rfl (by kernel_rfl) (by kernel_rfl) (by kernel_rfl) (fun _ _ _ h => h) (Or.inl ⟨by rfl, by (intro w hSw; obtain ⟨⟨hs1, hs2⟩, ⟨hs3, hs4⟩⟩ := hSw; go_simp)⟩) hHeld ?_
              simp only [List.getElem_toArray, List.getElem_cons_zero, List.getElem_cons_succ, Act.put, List.setIfInBounds_toArray, List.set_cons_zero, List.set_cons_succ]
              refine wpAnyH_done (by kernel_rfl) ?_ _
              have HF := Lib.hid (And.intro hB9 (And.intro hB10 (And.intro hA1 (And.intro hA2 (And.intro hA3 hxx5ss)))))
              clear hB9 hB10 hA1 hA2 hA3 hHeld hN1_9 hN2_9 hN3_9 hN1_10 hN2_10 hN3_10
              go_wp2_with fail
              go_meet
              exact ⟨g9, g10, A1, n1, c1, A2, n2, c2, A3, n3, c3, rfl, rfl, rfl, Lib.hid HF.out.1, Lib.hid HF.out.2.1, Lib.hid HF.out.2.2.1, Lib.hid HF.out.2.2.2.1, Lib.hid HF.out.2.2.2.2.1, Lib.hid HF.out.2.2.2.2.2⟩
        · go_simp
          have hEx3 : Ext x2 (x2.alloc (.cells #[.slice none 0 0, .int .i64 0] 34)) := Ext.alloc _ _
          have hB9 : Blk (x2.alloc (.cells #[.slice none 0 0, .int .i64 0] 34)) x2.heap.size 34 #[.slice none 0 0, .int .i64 0] := Blk.new _ _ _
          have hG9 : W1.heap.size ≤ x2.heap.size := hxx2.hsize
          have hN1_9 : ∀ q, (Value.slice (some A1) n1 c1).ownBlock = some q → q ≠ x2.heap.size := fun q hq => by have h1 := (hA1.blk q hq).2; omega
          have hN2_9 : ∀ q, (Value.slice (some A2) n2 c2).ownBlock = some q → q ≠ x2.heap.size := fun q hq => by have h1 := (hA2.blk q hq).2; omega
          have hall := And.intro hEx3 (And.intro hB9 (And.intro hG9 (And.intro hN1_9 (hN2_9))))
          clear hEx3 hB9 hG9 hN1_9 hN2_9
          revert hall
          generalize x2.alloc (.cells #[.slice none 0 0, .int .i64 0] 34) = x3
          generalize x2.heap.size = g9
          rintro ⟨hEx3, hB9, hG9, hN1_9, hN2_9⟩
          have hxx3 := hxx2.trans hEx3
          have hA1 := hA1.ext hEx3
          have hA2 := hA2.ext hEx3
          refine hK.out _ _ (KS.out _ hxx3) (fun hHeld => ?_)
          clear hK K
          clear hEx3
          try simp only [List.getElem_toArray, List.getElem_cons_zero, List.getElem_cons_succ, Act.put, List.setIfInBounds_toArray, List.set_cons_zero, List.set_cons_succ]
          refine wpAnyH_ready (rs := [13, 15]) (by kernel_rfl) (by simp) ?_
          refine (AllReadyH.cons rfl (fun K hK => ?_) (AllReadyH.cons rfl (fun K hK => ?_) AllReadyH.nil))
          · refine step_callf rfl 18 #[.slice C m e, .int .i64 77] rfl (by kernel_rfl) (fun v w' => Amp w' x3.heap.size v sg 77 ∧ Ext x3 w') ((HP3.out hxx3).mono fun e w' ⟨v, h1, h2, h3⟩ => ⟨v, h1, h2, h3⟩) ?_
            rintro v3 x4 ⟨hA3, hEx4⟩
            have hxx4 := hxx3.trans hEx4
            have hA1 := hA1.ext hEx4
            have hA2 := hA2.ext hEx4
            have hN3_9 : ∀ q, v3.ownBlock = some q → q ≠ g9 := fun q hq => by have h1 := (hA3.blk q hq).1; have h2 := hB9.lt; omega
            have hB9 := hB9.ext hEx4
            have hA3 := hA3.lower hxx3.hsize
            obtain ⟨A3, n3, c3, rfl⟩ := amp_slice hA3
            refine hK.out _ _ (KS.out _ hxx4) (fun hHeld => ?_)
            clear hK K
            clear hEx4
            simp only [List.getElem_toArray, List.getElem_cons_zero, List.getElem_cons_succ, Act.put, List.setIfInBounds_toArray, List.set_cons_zero, List.set_cons_succ]
            refine wpAnyH_ready (rs := [15]) (by kernel_rfl) (by simp) ?_
            refine (AllReadyH.cons rfl (fun K hK => ?_) AllReadyH.nil)
            · go_simp
              have hEx5 : Ext x4 (x4.alloc (.cells #[.slice none 0 0, .int .i64 0] 34)) := Ext.alloc _ _
              have hB10 : Blk (x4.alloc (.cells #[.slice none 0 0, .int .i64 0] 34)) x4.heap.size 34 #[.slice none 0 0, .int .i64 0] := Blk.new _ _ _
              have hG10 : W1.heap.size ≤ x4.heap.size := hxx4.hsize
              have hN1_10 : ∀ q, (Value.slice (some A1) n1 c1).ownBlock = some q → q ≠ x4.heap.size := fun q hq => by have h1 := (hA1.blk q hq).2; omega
              have hN2_10 : ∀ q, (Value.slice (some A2) n2 c2).ownBlock = some q → q ≠ x4.heap.size := fun q hq => by have h1 := (hA2.blk q hq).2; omega
              have hN3_10 : ∀ q, (Value.slice (some A3) n3 c3).ownBlock = some q → q ≠ x4.heap.size := fun q hq => by have h1 := (hA3.blk q hq).2; omega
              have hD : g9 ≠ x4.heap.size := by have := hB9.lt; omega
              have hall := And.intro hEx5 (And.intro hB10 (And.intro hG10 (And.intro hN1_10 (And.intro hN2_10 (And.intro hN3_10 (hD))))))
              clear hEx5 hB10 hG10 hN1_10 hN2_10 hN3_10 hD
              revert hall
              generalize x4.alloc (.cells #[.slice none 0 0, .int .i64 0] 34) = x5
              generalize x4.heap.size = g10
              rintro ⟨hEx5, hB10, hG10, hN1_10, hN2_10, hN3_10, hD⟩
              have hxx5 := hxx4.trans hEx5
              have hA1 := hA1.ext hEx5
              have hA2 := hA2.ext hEx5
              have hA3 := hA3.ext hEx5
              have hB9 := hB9.ext hEx5
              refine hK.out _ _ (KS.out _ hxx5) (fun hHeld => ?_)
              clear hK K
              clear hEx5
              try simp only [List.getElem_toArray, List.getElem_cons_zero, List.getElem_cons_succ, Act.put, List.setIfInBounds_toArray, List.set_cons_zero, List.set_cons_succ]
              have hD9 : g9 ≠ g10 := by first | exact hD | exact fun e => hD e.symm
              have hD10 : g10 ≠ g9 := fun e => hD9 e.symm
              obtain ⟨d0, d1⟩ := cells2 hB9
              obtain ⟨f0, f1⟩ := frozen2 hB9
              refine wpAnyH_ready (rs := [16]) (by kernel_rfl) (by simp) ?_
              refine (AllReadyH.cons rfl (fun K hK => ?_) AllReadyH.nil)
              go_simp
              have hxx5s := st2_ext hxx5 hG9 (.slice (some A1) n1 c1) (.int .i64 a)
              have hB10 := st2_farE hB10 hD9 (.slice (some A1) n1 c1) (.int .i64 a)
              have hB9 := st2_blk hB9 (.slice (some A1) n1 c1) (.int .i64 a)
              have hA1 := amp_st2 hA1 hN1_9 (.slice (some A1) n1 c1) (.int .i64 a)
              have hA2 := amp_st2 hA2 hN2_9 (.slice (some A1) n1 c1) (.int .i64 a)
              have hA3 := amp_st2 hA3 hN3_9 (.slice (some A1) n1 c1) (.int .i64 a)
              unfold st2 at hxx5s hB9 hB10 hA1 hA2 hA3
              refine hK.out _ _ (KS.out _ hxx5s) (fun hHeld => ?_)
              clear hK K d0 d1 f0 f1
              have hall := And.intro hxx5s (And.intro hB9 (And.intro hB10 (And.intro hA1 (And.intro hA2 (And.intro hA3 hHeld)))))
              clear hxx5s hB9 hB10 hA1 hA2 hA3 hHeld
              revert hall
              generalize (x5.setCell ⟨g9, 0, none⟩ (.slice (some A1) n1 c1)).setCell ⟨g9, 1, none⟩ (.int .i64 a) = x5s
              rintro ⟨hxx5s, hB9, hB10, hA1, hA2, hA3, hHeld⟩
              try simp only [List.getElem_toArray, List.getElem_cons_zero, List.getElem_cons_succ, Act.put, List.setIfInBounds_toArray, List.set_cons_zero, List.set_cons_succ]
              obtain ⟨d0, d1⟩ := cells2 hB10
              obtain ⟨f0, f1⟩ := frozen2 hB10
              refine wpAnyH_ready (rs := [17]) (by kernel_rfl) (by simp) ?_
              refine (AllReadyH.cons rfl (fun K hK => ?_) AllReadyH.nil)
              go_simp
              have hxx5ss := st2_ext hxx5s hG10 (.slice (some A2) n2 c2) (.int .i64 b)
              have hB9 := st2_farE hB9 hD10 (.slice (some A2) n2 c2) (.int .i64 b)
              have hB10 := st2_blk hB10 (.slice (some A2) n2 c2) (.int .i64 b)
              have hA1 := amp_st2 hA1 hN1_10 (.slice (some A2) n2 c2) (.int .i64 b)
              have hA2 := amp_st2 hA2 hN2_10 (.slice (some A2) n2 c2) (.int .i64 b)
              have hA3 := amp_st2 hA3 hN3_10 (.slice (some A2) n2 c2) (.int .i64 b)
              unfold st2 at hxx5ss hB9 hB10 hA1 hA2 hA3
              refine hK.out _ _ (KS.out _ hxx5ss) (fun hHeld => ?_)
              clear hK K d0 d1 f0 f1
              have hall := And.intro hxx5ss (And.intro hB9 (And.intro hB10 (And.intro hA1 (And.intro hA2 (And.intro hA3 hHeld)))))
              clear hxx5ss hB9 hB10 hA1 hA2 hA3 hHeld
              revert hall
              generalize (x5s.setCell ⟨g10, 0, none⟩ (.slice (some A2) n2 c2)).setCell ⟨g10, 1, none⟩ (.int .i64 b) = x5ss
              rintro ⟨hxx5ss, hB9, hB10, hA1, hA2, hA3, hHeld⟩
              try simp only [List.getElem_toArray, List.getElem_cons_zero, List.getElem_cons_succ, Act.put, List.setIfInBounds_toArray, List.set_cons_zero, List.set_cons_succ]
              refine wpAnyH_take (i := 18) (v := (.slice (some A3) n3 c3)) rfl (by kernel_rfl) (by kernel_rfl) (by kernel_rfl) (fun _ _ _ h => h) (Or.inl ⟨by rfl, by (intro w hSw; obtain ⟨⟨hs1, hs2⟩, ⟨hs3, hs4⟩⟩ := hSw; go_simp)⟩) hHeld ?_
              simp only [List.getElem_toArray, List.getElem_cons_zero, List.getElem_cons_succ, Act.put, List.setIfInBounds_toArray, List.set_cons_zero, List.set_cons_succ]
              refine wpAnyH_done (by kernel_rfl) ?_ _
              have HF := Lib.hid (And.intro hB9 (And.intro hB10 (And.intro hA1 (And.intro hA2 (And.intro hA3 hxx5ss)))))
              clear hB9 hB10 hA1 hA2 hA3 hHeld hN1_9 hN2_9 hN3_9 hN1_10 hN2_10 hN3_10
              go_wp2_with fail
              go_meet
              exact ⟨g9, g10, A1, n1, c1, A2, n2, c2, A3, n3, c3, rfl, rfl, rfl, Lib.hid HF.out.1, Lib.hid HF.out.2.1, Lib.hid HF.out.2.2.1, Lib.hid HF.out.2.2.2.1, Lib.hid HF.out.2.2.2.2.1, Lib.hid HF.out.2.2.2.2.2⟩
          · go_simp
            have hEx4 : Ext x3 (x3.alloc (.cells #[.slice none 0 0, .int .i64 0] 34)) := Ext.alloc _ _
            have hB10 : Blk (x3.alloc (.cells #[.slice none 0 0, .int .i64 0] 34)) x3.heap.size 34 #[.slice none 0 0, .int .i64 0] := Blk.new _ _ _
            have hG10 : W1.heap.size ≤ x3.heap.size := hxx3.hsize
            have hN1_10 : ∀ q, (Value.slice (some A1) n1 c1).ownBlock = some q → q ≠ x3.heap.size := fun q hq => by have h1 := (hA1.blk q hq).2; omega
            have hN2_10 : ∀ q, (Value.slice (some A2) n2 c2).ownBlock = some q → q ≠ x3.heap.size := fun q hq => by have h1 := (hA2.blk q hq).2; omega
            have hD : g9 ≠ x3.heap.size := by have := hB9.lt; omega
            have hall := And.intro hEx4 (And.intro hB10 (And.intro hG10 (And.intro hN1_10 (And.intro hN2_10 (hD)))))
            clear hEx4 hB10 hG10 hN1_10 hN2_10 hD
            revert hall
            generalize x3.alloc (.cells #[.slice none 0 0, .int .i64 0] 34) = x4
            generalize x3.heap.size = g10
            rintro ⟨hEx4, hB10, hG10, hN1_10, hN2_10, hD⟩
            have hxx4 := hxx3.trans hEx4
            have hA1 := hA1.ext hEx4
            have hA2 := hA2.ext hEx4
            have hB9 := hB9.ext hEx4
            refine hK.out _ _ (KS.out _ hxx4) (fun hHeld => ?_)
            clear hK K
            clear hEx4
            try simp only [List.getElem_toArray, List.getElem_cons_zero, List.getElem_cons_succ, Act.put, List.setIfInBounds_toArray, List.set_cons_zero, List.set_cons_succ]
            refine wpAnyH_ready (rs := [13]) (by kernel_rfl) (by simp) ?_
            refine (AllReadyH.cons rfl (fun K hK => ?_) AllReadyH.nil)
            · refine step_callf rfl 18 #[.slice C m e, .int .i64 77] rfl (by kernel_rfl) (fun v w' => Amp w' x4.heap.size v sg 77 ∧ Ext x4 w') ((HP3.out hxx4).mono fun e w' ⟨v, h1, h2, h3⟩ => ⟨v, h1, h2, h3⟩) ?_
              rintro v3 x5 ⟨hA3, hEx5⟩
              have hxx5 := hxx4.trans hEx5
              have hA1 := hA1.ext hEx5
              have hA2 := hA2.ext hEx5
              have hN3_9 : ∀ q, v3.ownBlock = some q → q ≠ g9 := fun q hq => by have h1 := (hA3.blk q hq).1; have h2 := hB9.lt; omega
              have hB9 := hB9.ext hEx5
              have hN3_10 : ∀ q, v3.ownBlock = some q → q ≠ g10 := fun q hq => by have h1 := (hA3.blk q hq).1; have h2 := hB10.lt; omega
              have hB10 := hB10.ext hEx5
              have hA3 := hA3.lower hxx4.hsize
              obtain ⟨A3, n3, c3, rfl⟩ := amp_slice hA3
              refine hK.out _ _ (KS.out _ hxx5) (fun hHeld => ?_)
              clear hK K
              clear hEx5
              simp only [List.getElem_toArray, List.getElem_cons_zero, List.getElem_cons_succ, Act.put, List.setIfInBounds_toArray, List.set_cons_zero, List.set_cons_succ]
              have hD9 : g9 ≠ g10 := by first | exact hD | exact fun e => hD e.symm
              have hD10 : g10 ≠ g9 := fun e => hD9 e.symm
              obtain ⟨d0, d1⟩ := cells2 hB9
              obtain ⟨f0, f1⟩ := frozen2 hB9
              refine wpAnyH_ready (rs := [16]) (by kernel_rfl) (by simp) ?_
              refine (AllReadyH.cons rfl (fun K hK => ?_) AllReadyH.nil)
              go_simp
              have hxx5s := st2_ext hxx5 hG9 (.slice (some A1) n1 c1) (.int .i64 a)
              have hB10 := st2_farE hB10 hD9 (.slice (some A1) n1 c1) (.int .i64 a)
              have hB9 := st2_blk hB9 (.slice (some A1) n1 c1) (.int .i64 a)
              have hA1 := amp_st2 hA1 hN1_9 (.slice (some A1) n1 c1) (.int .i64 a)
              have hA2 := amp_st2 hA2 hN2_9 (.slice (some A1) n1 c1) (.int .i64 a)
              have hA3 := amp_st2 hA3 hN3_9 (.slice (some A1) n1 c1) (.int .i64 a)
              unfold st2 at hxx5s hB9 hB10 hA1 hA2 hA3
              refine hK.out _ _ (KS.out _ hxx5s) (fun hHeld => ?_)
              clear hK K d0 d1 f0 f1
              have hall := And.intro hxx5s (And.intro hB9 (And.intro hB10 (And.intro hA1 (And.intro hA2 (And.intro hA3 hHeld)))))
              clear hxx5s hB9 hB10 hA1 hA2 hA3 hHeld
              revert hall
              generalize (x5.setCell ⟨g9, 0, none⟩ (.slice (some A1) n1 c1)).setCell ⟨g9, 1, none⟩ (.int .i64 a) = x5s
              rintro ⟨hxx5s, hB9, hB10, hA1, hA2, hA3, hHeld⟩
              try simp only [List.getElem_toArray, List.getElem_cons_zero, List.getElem_cons_succ, Act.put, List.setIfInBounds_toArray, List.set_cons_zero, List.set_cons_succ]
              obtain ⟨d0, d1⟩ := cells2 hB10
              obtain ⟨f0, f1⟩ := frozen2 hB10
              refine wpAnyH_ready (rs := [17]) (by kernel_rfl) (by simp) ?_
              refine (AllReadyH.cons rfl (fun K hK => ?_) AllReadyH.nil)
              go_simp
              have hxx5ss := st2_ext hxx5s hG10 (.slice (some A2) n2 c2) (.int .i64 b)
              have hB9 := st2_farE hB9 hD10 (.slice (some A2) n2 c2) (.int .i64 b)
              have hB10 := st2_blk hB10 (.slice (some A2) n2 c2) (.int .i64 b)
              have hA1 := amp_st2 hA1 hN1_10 (.slice (some A2) n2 c2) (.int .i64 b)
              have hA2 := amp_st2 hA2 hN2_10 (.slice (some A2) n2 c2) (.int .i64 b)
              have hA3 := amp_st2 hA3 hN3_10 (.slice (some A2) n2 c2) (.int .i64 b)
              unfold st2 at hxx5ss hB9 hB10 hA1 hA2 hA3
              refine hK.out _ _ (KS.out _ hxx5ss) (fun hHeld => ?_)
              clear hK K d0 d1 f0 f1
              have hall := And.intro hxx5ss (And.intro hB9 (And.intro hB10 (And.intro hA1 (And.intro hA2 (And.intro hA3 hHeld)))))
              clear hxx5ss hB9 hB10 hA1 hA2 hA3 hHeld
              revert hall
              generalize (x5s.setCell ⟨g10, 0, none⟩ (.slice (some A2) n2 c2)).setCell ⟨g10, 1, none⟩ (.int .i64 b) = x5ss
              rintro ⟨hxx5ss, hB9, hB10, hA1, hA2, hA3, hHeld⟩
              try simp only [List.getElem_toArray, List.getElem_cons_zero, List.getElem_cons_succ, Act.put, List.setIfInBounds_toArray, List.set_cons_zero, List.set_cons_succ]
              refine wpAnyH_take (i := 18) (v := (.slice (some A3) n3 c3)) rfl (by kernel_rfl) (by kernel_rfl) (by kernel_rfl) (fun _ _ _ h => h) (Or.inl ⟨by rfl, by (intro w hSw; obtain ⟨⟨hs1, hs2⟩, ⟨hs3, hs4⟩⟩ := hSw; go_simp)⟩) hHeld ?_
              simp only [List.getElem_toArray, List.getElem_cons_zero, List.getElem_cons_succ, Act.put, List.setIfInBounds_toArray, List.set_cons_zero, List.set_cons_succ]
              refine wpAnyH_done (by kernel_rfl) ?_ _
              have HF := Lib.hid (And.intro hB9 (And.intro hB10 (And.intro hA1 (And.intro hA2 (And.intro hA3 hxx5ss)))))
              clear hB9 hB10 hA1 hA2 hA3 hHeld hN1_9 hN2_9 hN3_9 hN1_10 hN2_10 hN3_10
              go_wp2_with fail
              go_meet
              exact ⟨g9, g10, A1, n1, c1, A2, n2, c2, A3, n3, c3, rfl, rfl, rfl, Lib.hid HF.out.1, Lib.hid HF.out.2.1, Lib.hid HF.out.2.2.1, Lib.hid HF.out.2.2.2.1, Lib.hid HF.out.2.2.2.2.1, Lib.hid HF.out.2.2.2.2.2⟩
        · go_simp
          have hEx3 : Ext x2 (x2.alloc (.cells #[.slice none 0 0, .int .i64 0] 34)) := Ext.alloc _ _
          have hB10 : Blk (x2.alloc (.cells #[.slice none 0 0, .int .i64 0] 34)) x2.heap.size 34 #[.slice none 0 0, .int .i64 0] := Blk.new _ _ _
          have hG10 : W1.heap.size ≤ x2.heap.size := hxx2.hsize
          have hN1_10 : ∀ q, (Value.slice (some A1) n1 c1).ownBlock = some q → q ≠ x2.heap.size := fun q hq => by have h1 := (hA1.blk q hq).2; omega
          have hN2_10 : ∀ q, (Value.slice (some A2) n2 c2).ownBlock = some q → q ≠ x2.heap.size := fun q hq => by have h1 := (hA2.blk q hq).2; omega
          have hall := And.intro hEx3 (And.intro hB10 (And.intro hG10 (And.intro hN1_10 (hN2_10))))
          clear hEx3 hB10 hG10 hN1_10 hN2_10
          revert hall
          generalize x2.alloc (.cells #[.slice none 0 0, .int .i64 0] 34) = x3
          generalize x2.heap.size = g10
          rintro ⟨hEx3, hB10, hG10, hN1_10, hN2_10⟩
          have hxx3 := hxx2.trans hEx3
          have hA1 := hA1.ext hEx3
          have hA2 := hA2.ext hEx3
          refine hK.out _ _ (KS.out _ hxx3) (fun hHeld => ?_)
          clear hK K
          clear hEx3
          try simp only [List.getElem_toArray, List.getElem_cons_zero, List.getElem_cons_succ, Act.put, List.setIfInBounds_toArray, List.set_cons_zero, List.set_cons_succ]
          refine wpAnyH_ready (rs := [13, 14]) (by kernel_rfl) (by simp) ?_
          refine (AllReadyH.cons rfl (fun K hK => ?_) (AllReadyH.cons rfl (fun K hK => ?_) AllReadyH.nil))
          · refine step_callf rfl 18 #[.slice C m e, .int .i64 77] rfl (by kernel_rfl) (fun v w' => Amp w' x3.heap.size v sg 77 ∧ Ext x3 w') ((HP3.out hxx3).mono fun e w' ⟨v, h1, h2, h3⟩ => ⟨v, h1, h2, h3⟩) ?_
            rintro v3 x4 ⟨hA3, hEx4⟩
            have hxx4 := hxx3.trans hEx4
            have hA1 := hA1.ext hEx4
            have hA2 := hA2.ext hEx4
            have hN3_10 : ∀ q, v3.ownBlock = some q → q ≠ g10 := fun q hq => by have h1 := (hA3.blk q hq).1; have h2 := hB10.lt; omega
            have hB10 := hB10.ext hEx4
            have hA3 := hA3.lower hxx3.hsize
            obtain ⟨A3, n3, c3, rfl⟩ := amp_slice hA3
            refine hK.out _ _ (KS.out _ hxx4) (fun hHeld => ?_)
            clear hK K
            clear hEx4
            simp only [List.getElem_toArray, List.getElem_cons_zero, List.getElem_cons_succ, Act.put, List.setIfInBounds_toArray, List.set_cons_zero, List.set_cons_succ]
            refine wpAnyH_ready (rs := [14]) (by kernel_rfl) (by simp) ?_
            refine (AllReadyH.cons rfl (fun K hK => ?_) AllReadyH.nil)
            · go_simp
              have hEx5 : Ext x4 (x4.alloc (.cells #[.slice none 0 0, .int .i64 0] 34)) := Ext.alloc _ _
              have hB9 : Blk (x4.alloc (.cells #[.slice none 0 0, .int .i64 0] 34)) x4.heap.size 34 #[.slice none 0 0, .int .i64 0] := Blk.new _ _ _
              have hG9 : W1.heap.size ≤ x4.heap.size := hxx4.hsize
              have hN1_9 : ∀ q, (Value.slice (some A1) n1 c1).ownBlock = some q → q ≠ x4.heap.size := fun q hq => by have h1 := (hA1.blk q hq).2; omega
              have hN2_9 : ∀ q, (Value.slice (some A2) n2 c2).ownBlock = some q → q ≠ x4.heap.size := fun q hq => by have h1 := (hA2.blk q hq).2; omega
              have hN3_9 : ∀ q, (Value.slice (some A3) n3 c3).ownBlock = some q → q ≠ x4.heap.size := fun q hq => by have h1 := (hA3.blk q hq).2; omega
              have hD : g10 ≠ x4.heap.size := by have := hB10.lt; omega
              have hall := And.intro hEx5 (And.intro hB9 (And.intro hG9 (And.intro hN1_9 (And.intro hN2_9 (And.intro hN3_9 (hD))))))
              clear hEx5 hB9 hG9 hN1_9 hN2_9 hN3_9 hD
              revert hall
              generalize x4.alloc (.cells #[.slice none 0 0, .int .i64 0] 34) = x5
              generalize x4.heap.size = g9
              rintro ⟨hEx5, hB9, hG9, hN1_9, hN2_9, hN3_9, hD⟩
              have hxx5 := hxx4.trans hEx5
              have hA1 := hA1.ext hEx5
              have hA2 := hA2.ext hEx5
              have hA3 := hA3.ext hEx5
              have hB10 := hB10.ext hEx5
              refine hK.out _ _ (KS.out _ hxx5) (fun hHeld => ?_)
              clear hK K
              clear hEx5
              try simp only [List.getElem_toArray, List.getElem_cons_zero, List.getElem_cons_succ, Act.put, List.setIfInBounds_toArray, List.set_cons_zero, List.set_cons_succ]
              have hD9 : g9 ≠ g10 := by first | exact hD | exact fun e => hD e.symm
              have hD10 : g10 ≠ g9 := fun e => hD9 e.symm
              obtain ⟨d0, d1⟩ := cells2 hB9
              obtain ⟨f0, f1⟩ := frozen2 hB9
              refine wpAnyH_ready (rs := [16]) (by kernel_rfl) (by simp) ?_
              refine (AllReadyH.cons rfl (fun K hK => ?_) AllReadyH.nil)
              go_simp
              have hxx5s := st2_ext hxx5 hG9 (.slice (some A1) n1 c1) (.int .i64 a)
              have hB10 := st2_farE hB10 hD9 (.slice (some A1) n1 c1) (.int .i64 a)
              have hB9 := st2_blk hB9 (.slice (some A1) n1 c1) (.int .i64 a)
              have hA1 := amp_st2 hA1 hN1_9 (.slice (some A1) n1 c1) (.int .i64 a)
              have hA2 := amp_st2 hA2 hN2_9 (.slice (some A1) n1 c1) (.int .i64 a)
              have hA3 := amp_st2 hA3 hN3_9 (.slice (some A1) n1 c1) (.int .i64 a)
              unfold st2 at hxx5s hB9 hB10 hA1 hA2 hA3
              refine hK.out _ _ (KS.out _ hxx5s) (fun hHeld => ?_)
              clear hK K d0 d1 f0 f1
              have hall := And.intro hxx5s (And.intro hB9 (And.intro hB10 (And.intro hA1 (And.intro hA2 (And.intro hA3 hHeld)))))
              clear hxx5s hB9 hB10 hA1 hA2 hA3 hHeld
              revert hall
              generalize (x5.setCell ⟨g9, 0, none⟩ (.slice (some A1) n1 c1)).setCell ⟨g9, 1, none⟩ (.int .i64 a) = x5s
              rintro ⟨hxx5s, hB9, hB10, hA1, hA2, hA3, hHeld⟩
              try simp only [List.getElem_toArray, List.getElem_cons_zero, List.getElem_cons_succ, Act.put, List.setIfInBounds_toArray, List.set_cons_zero, List.set_cons_succ]
              obtain ⟨d0, d1⟩ := cells2 hB10
              obtain ⟨f0, f1⟩ := frozen2 hB10
              refine wpAnyH_ready (rs := [17]) (by kernel_rfl) (by simp) ?_
              refine (AllReadyH.cons rfl (fun K hK => ?_) AllReadyH.nil)
              go_simp
              have hxx5ss := st2_ext hxx5s hG10 (.slice (some A2) n2 c2) (.int .i64 b)
              have hB9 := st2_farE hB9 hD10 (.slice (some A2) n2 c2) (.int .i64 b)
              have hB10 := st2_blk hB10 (.slice (some A2) n2 c2) (.int .i64 b)
              have hA1 := amp_st2 hA1 hN1_10 (.slice (some A2) n2 c2) (.int .i64 b)
              have hA2 := amp_st2 hA2 hN2_10 (.slice (some A2) n2 c2) (.int .i64 b)
              have hA3 := amp_st2 hA3 hN3_10 (.slice (some A2) n2 c2) (.int .i64 b)
              unfold st2 at hxx5ss hB9 hB10 hA1 hA2 hA3
              refine hK.out _ _ (KS.out _ hxx5ss) (fun hHeld => ?_)
              clear hK K d0 d1 f0 f1
              have hall := And.intro hxx5ss (And.intro hB9 (And.intro hB10 (And.intro hA1 (And.intro hA2 (And.intro hA3 hHeld)))))
              clear hxx5ss hB9 hB10 hA1 hA2 hA3 hHeld
              revert hall
              generalize (x5s.setCell ⟨g10, 0, none⟩ (.slice (some A2) n2 c2)).setCell ⟨g10, 1, none⟩ (.int .i64 b) = x5ss
              rintro ⟨hxx5ss, hB9, hB10, hA1, hA2, hA3, hHeld⟩
              try simp only [List.getElem_toArray, List.getElem_cons_zero, List.getElem_cons_succ, Act.put, List.setIfInBounds_toArray, List.set_cons_zero, List.set_cons_succ]
              refine wpAnyH_take (i := 18) (v := (.slice (some A3) n3 c3)) rfl (by kernel_rfl) (by kernel_rfl) (by kernel_rfl) (fun _ _ _ h => h) (Or.inl ⟨by rfl, by (intro w hSw; obtain ⟨⟨hs1, hs2⟩, ⟨hs3, hs4⟩⟩ := hSw; go_simp)⟩) hHeld ?_
              simp only [List.getElem_toArray, List.getElem_cons_zero, List.getElem_cons_succ, Act.put, List.setIfInBounds_toArray, List.set_cons_zero, List.set_cons_succ]
              refine wpAnyH_done (by kernel_rfl) ?_ _
              have HF := Lib.hid (And.intro hB9 (And.intro hB10 (And.intro hA1 (And.intro hA2 (And.intro hA3 hxx5ss)))))
              clear hB9 hB10 hA1 hA2 hA3 hHeld hN1_9 hN2_9 hN3_9 hN1_10 hN2_10 hN3_10
              go_wp2_with fail
              go_meet
              exact ⟨g9, g10, A1, n1, c1, A2, n2, c2, A3, n3, c3, rfl, rfl, rfl, Lib.hid HF.out.1, Lib.hid HF.out.2.1, Lib.hid HF.out.2.2.1, Lib.hid HF.out.2.2.2.1, Lib.hid HF.out.2.2.2.2.1, Lib.hid HF.out.2.2.2.2.2⟩
          · go_simp
            have hEx4 : Ext x3 (x3.alloc (.cells #[.slice none 0 0, .int .i64 0] 34)) := Ext.alloc _ _
            have hB9 : Blk (x3.alloc (.cells #[.slice none 0 0, .int .i64 0] 34)) x3.heap.size 34 #[.slice none 0 0, .int .i64 0] := Blk.new _ _ _
            have hG9 : W1.heap.size ≤ x3.heap.size := hxx3.hsize
            have hN1_9 : ∀ q, (Value.slice (some A1) n1 c1).ownBlock = some q → q ≠ x3.heap.size := fun q hq => by have h1 := (hA1.blk q hq).2; omega
            have hN2_9 : ∀ q, (Value.slice (some A2) n2 c2).ownBlock = some q → q ≠ x3.heap.size := fun q hq => by have h1 := (hA2.blk q hq).2; omega
            have hD : g10 ≠ x3.heap.size := by have := hB10.lt; omega
            have hall := And.intro hEx4 (And.intro hB9 (And.intro hG9 (And.intro hN1_9 (And.intro hN2_9 (hD)))))
            clear hEx4 hB9 hG9 hN1_9 hN2_9 hD
            revert hall
            generalize x3.alloc (.cells #[.slice none 0 0, .int .i64 0] 34) = x4
            generalize x3.heap.size = g9
            rintro ⟨hEx4, hB9, hG9, hN1_9, hN2_9, hD⟩
            have hxx4 := hxx3.trans hEx4
            have hA1 := hA1.ext hEx4
            have hA2 := hA2.ext hEx4
            have hB10 := hB10.ext hEx4
            refine hK.out _ _ (KS.out _ hxx4) (fun hHeld => ?_)
            clear hK K
            clear hEx4
            try simp only [List.getElem_toArray, List.getElem_cons_zero, List.getElem_cons_succ, Act.put, List.setIfInBounds_toArray, List.set_cons_zero, List.set_cons_succ]
            refine wpAnyH_ready (rs := [13]) (by kernel_rfl) (by simp) ?_
            refine (AllReadyH.cons rfl (fun K hK => ?_) AllReadyH.nil)
            · refine step_callf rfl 18 #[.slice C m e, .int .i64 77] rfl (by kernel_rfl) (fun v w' => Amp w' x4.heap.size v sg 77 ∧ Ext x4 w') ((HP3.out hxx4).mono fun e w' ⟨v, h1, h2, h3⟩ => ⟨v, h1, h2, h3⟩) ?_
              rintro v3 x5 ⟨hA3, hEx5⟩
              have hxx5 := hxx4.trans hEx5
              have hA1 := hA1.ext hEx5
              have hA2 := hA2.ext hEx5
              have hN3_9 : ∀ q, v3.ownBlock = some q → q ≠ g9 := fun q hq => by have h1 := (hA3.blk q hq).1; have h2 := hB9.lt; omega
              have hB9 := hB9.ext hEx5
              have hN3_10 : ∀ q, v3.ownBlock = some q → q ≠ g10 := fun q hq => by have h1 := (hA3.blk q hq).1; have h2 := hB10.lt; omega
              have hB10 := hB10.ext hEx5
              have hA3 := hA3.lower hxx4.hsize
              obtain ⟨A3, n3, c3, rfl⟩ := amp_slice hA3
              refine hK.out _ _ (KS.out _ hxx5) (fun hHeld => ?_)
              clear hK K
              clear hEx5
              simp only [List.getElem_toArray, List.getElem_cons_zero, List.getElem_cons_succ, Act.put, List.setIfInBounds_toArray, List.set_cons_zero, List.set_cons_succ]
              have hD9 : g9 ≠ g10 := by first | exact hD | exact fun e => hD e.symm
              have hD10 : g10 ≠ g9 := fun e => hD9 e.symm
              obtain ⟨d0, d1⟩ := cells2 hB9
              obtain ⟨f0, f1⟩ := frozen2 hB9
              refine wpAnyH_ready (rs := [16]) (by kernel_rfl) (by simp) ?_
              refine (AllReadyH.cons rfl (fun K hK => ?_) AllReadyH.nil)
              go_simp
              have hxx5s := st2_ext hxx5 hG9 (.slice (some A1) n1 c1) (.int .i64 a)
              have hB10 := st2_farE hB10 hD9 (.slice (some A1) n1 c1) (.int .i64 a)
              have hB9 := st2_blk hB9 (.slice (some A1) n1 c1) (.int .i64 a)
              have hA1 := amp_st2 hA1 hN1_9 (.slice (some A1) n1 c1) (.int .i64 a)
              have hA2 := amp_st2 hA2 hN2_9 (.slice (some A1) n1 c1) (.int .i64 a)
              have hA3 := amp_st2 hA3 hN3_9 (.slice (some A1) n1 c1) (.int .i64 a)
              unfold st2 at hxx5s hB9 hB10 hA1 hA2 hA3
              refine hK.out _ _ (KS.out _ hxx5s) (fun hHeld => ?_)
              clear hK K d0 d1 f0 f1
              have hall := And.intro hxx5s (And.intro hB9 (And.intro hB10 (And.intro hA1 (And.intro hA2 (And.intro hA3 hHeld)))))
              clear hxx5s hB9 hB10 hA1 hA2 hA3 hHeld
              revert hall
              generalize (x5.setCell ⟨g9, 0, none⟩ (.slice (some A1) n1 c1)).setCell ⟨g9, 1, none⟩ (.int .i64 a) = x5s
              rintro ⟨hxx5s, hB9, hB10, hA1, hA2, hA3, hHeld⟩
              try simp only [List.getElem_toArray, List.getElem_cons_zero, List.getElem_cons_succ, Act.put, List.setIfInBounds_toArray, List.set_cons_zero, List.set_cons_succ]
              obtain ⟨d0, d1⟩ := cells2 hB10
              obtain ⟨f0, f1⟩ := frozen2 hB10
              refine wpAnyH_ready (rs := [17]) (by kernel_rfl) (by simp) ?_
              refine (AllReadyH.cons rfl (fun K hK => ?_) AllReadyH.nil)
              go_simp
              have hxx5ss := st2_ext hxx5s hG10 (.slice (some A2) n2 c2) (.int .i64 b)
              have hB9 := st2_farE hB9 hD10 (.slice (some A2) n2 c2) (.int .i64 b)
              have hB10 := st2_blk hB10 (.slice (some A2) n2 c2) (.int .i64 b)
              have hA1 := amp_st2 hA1 hN1_10 (.slice (some A2) n2 c2) (.int .i64 b)
              have hA2 := amp_st2 hA2 hN2_10 (.slice (some A2) n2 c2) (.int .i64 b)
              have hA3 := amp_st2 hA3 hN3_10 (.slice (some A2) n2 c2) (.int .i64 b)
              unfold st2 at hxx5ss hB9 hB10 hA1 hA2 hA3
              refine hK.out _ _ (KS.out _ hxx5ss) (fun hHeld => ?_)
              clear hK K d0 d1 f0 f1
              have hall := And.intro hxx5ss (And.intro hB9 (And.intro hB10 (And.intro hA1 (And.intro hA2 (And.intro hA3 hHeld)))))
              clear hxx5ss hB9 hB10 hA1 hA2 hA3 hHeld
              revert hall
              generalize (x5s.setCell ⟨g10, 0, none⟩ (.slice (some A2) n2 c2)).setCell ⟨g10, 1, none⟩ (.int .i64 b) = x5ss
              rintro ⟨hxx5ss, hB9, hB10, hA1, hA2, hA3, hHeld⟩
              try simp only [List.getElem_toArray, List.getElem_cons_zero, List.getElem_cons_succ, Act.put, List.setIfInBounds_toArray, List.set_cons_zero, List.set_cons_succ]
              refine wpAnyH_take (i := 18) (v := (.slice (some A3) n3 c3)) rfl (by kernel_rfl) (by kernel_rfl) (by kernel_rfl) (fun _ _ _ h => h) (Or.inl ⟨by rfl, by (intro w hSw; obtain ⟨⟨hs1, hs2⟩, ⟨hs3, hs4⟩⟩ := hSw; go_simp)⟩) hHeld ?_
              simp only [List.getElem_toArray, List.getElem_cons_zero, List.getElem_cons_succ, Act.put, List.setIfInBounds_toArray, List.set_cons_zero, List.set_cons_succ]
              refine wpAnyH_done (by kernel_rfl) ?_ _
              have HF := Lib.hid (And.intro hB9 (And.intro hB10 (And.intro hA1 (And.intro hA2 (And.intro hA3 hxx5ss)))))
              clear hB9 hB10 hA1 hA2 hA3 hHeld hN1_9 hN2_9 hN3_9 hN1_10 hN2_10 hN3_10
              go_wp2_with fail
              go_meet
              exact ⟨g9, g10, A1, n1, c1, A2, n2, c2, A3, n3, c3, rfl, rfl, rfl, Lib.hid HF.out.1, Lib.hid HF.out.2.1, Lib.hid HF.out.2.2.1, Lib.hid HF.out.2.2.2.1, Lib.hid HF.out.2.2.2.2.1, Lib.hid HF.out.2.2.2.2.2⟩
      · go_simp
        have hEx2 : Ext x1 (x1.alloc (.cells #[.slice none 0 0, .int .i64 0] 34)) := Ext.alloc _ _
        have hB9 : Blk (x1.alloc (.cells #[.slice none 0 0, .int .i64 0] 34)) x1.heap.size 34 #[.slice none 0 0, .int .i64 0] := Blk.new _ _ _
        have hG9 : W1.heap.size ≤ x1.heap.size := hxx1.hsize
        have hN1_9 : ∀ q, (Value.slice (some A1) n1 c1).ownBlock = some q → q ≠ x1.heap.size := fun q hq => by have h1 := (hA1.blk q hq).2; omega
        have hall := And.intro hEx2 (And.intro hB9 (And.intro hG9 (hN1_9)))
        clear hEx2 hB9 hG9 hN1_9
        revert hall
        generalize x1.alloc (.cells #[.slice none 0 0, .int .i64 0] 34) = x2
        generalize x1.heap.size = g9
        rintro ⟨hEx2, hB9, hG9, hN1_9⟩
        have hxx2 := hxx1.trans hEx2
        have hA1 := hA1.ext hEx2
        refine hK.out _ _ (KS.out _ hxx2) (fun hHeld => ?_)
        clear hK K
        clear hEx2
        try simp only [List.getElem_toArray, List.getElem_cons_zero, List.getElem_cons_succ, Act.put, List.setIfInBounds_toArray, List.set_cons_zero, List.set_cons_succ]
        refine wpAnyH_ready (rs := [8, 15]) (by kernel_rfl) (by simp) ?_
        refine (AllReadyH.cons rfl (fun K hK => ?_) (AllReadyH.cons rfl (fun K hK => ?_) AllReadyH.nil))
        · refine step_callf rfl 18 #[.slice B q d, .int .i64 77] rfl (by kernel_rfl) (fun v w' => Amp w' x2.heap.size v l2 77 ∧ Ext x2 w') ((HP2.out hxx2).mono fun e w' ⟨v, h1, h2, h3⟩ => ⟨v, h1, h2, h3⟩) ?_
          rintro v2 x3 ⟨hA2, hEx3⟩
          have hxx3 := hxx2.trans hEx3
          have hA1 := hA1.ext hEx3
          have hN2_9 : ∀ q, v2.ownBlock = some q → q ≠ g9 := fun q hq => by have h1 := (hA2.blk q hq).1; have h2 := hB9.lt; omega
          have hB9 := hB9.ext hEx3
          have hA2 := hA2.lower hxx2.hsize
          obtain ⟨A2, n2, c2, rfl⟩ := amp_slice hA2
          refine hK.out _ _ (KS.out _ hxx3) (fun hHeld => ?_)
          clear hK K
          clear hEx3
          simp only [List.getElem_toArray, List.getElem_cons_zero, List.getElem_cons_succ, Act.put, List.setIfInBounds_toArray, List.set_cons_zero, List.set_cons_succ]
          refine wpAnyH_take (i := 11) (v := (.agg #[.slice (some A2) n2 c2, .int .i64 b])) rfl (by kernel_rfl) (by kernel_rfl) (by kernel_rfl) (fun _ _ _ h => h) (Or.inl ⟨by rfl, by (intro w hSw; obtain ⟨⟨hs1, hs2⟩, ⟨hs3, hs4⟩⟩ := hSw; go_simp)⟩) hHeld ?_
          simp only [List.getElem_toArray, List.getElem_cons_zero, List.getElem_cons_succ, Act.put, List.setIfInBounds_toArray, List.set_cons_zero, List.set_cons_succ]
          refine wpAnyH_ready (rs := [13, 15]) (by kernel_rfl) (by simp) ?_
          refine (AllReadyH.cons rfl (fun K hK => ?_) (AllReadyH.cons rfl (fun K hK => ?_) AllReadyH.nil))
          · refine step_callf rfl 18 #[.slice C m e, .int .i64 77] rfl (by kernel_rfl) (fun v w' => Amp w' x3.heap.size v sg 77 ∧ Ext x3 w') ((HP3.out hxx3).mono fun e w' ⟨v, h1, h2, h3⟩ => ⟨v, h1, h2, h3⟩) ?_
            rintro v3 x4 ⟨hA3, hEx4⟩
            have hxx4 := hxx3.trans hEx4
            have hA1 := hA1.ext hEx4
            have hA2 := hA2.ext hEx4
            have hN3_9 : ∀ q, v3.ownBlock = some q → q ≠ g9 := fun q hq => by have h1 := (hA3.blk q hq).1; have h2 := hB9.lt; omega
            have hB9 := hB9.ext hEx4
            have hA3 := hA3.lower hxx3.hsize
            obtain ⟨A3, n3, c3, rfl⟩ := amp_slice hA3
            refine hK.out _ _ (KS.out _ hxx4) (fun hHeld => ?_)
            clear hK K
            clear hEx4
            simp only [List.getElem_toArray, List.getElem_cons_zero, List.getElem_cons_succ, Act.put, List.setIfInBounds_toArray, List.set_cons_zero, List.set_cons_succ]
            refine wpAnyH_ready (rs := [15]) (by kernel_rfl) (by simp) ?_
            refine (AllReadyH.cons rfl (fun K hK => ?_) AllReadyH.nil)
            · go_simp
              have hEx5 : Ext x4 (x4.alloc (.cells #[.slice none 0 0, .int .i64 0] 34)) := Ext.alloc _ _
              have hB10 : Blk (x4.alloc (.cells #[.slice none 0 0, .int .i64 0] 34)) x4.heap.size 34 #[.slice none 0 0, .int .i64 0] := Blk.new _ _ _
              have hG10 : W1.heap.size ≤ x4.heap.size := hxx4.hsize
              have hN1_10 : ∀ q, (Value.slice (some A1) n1 c1).ownBlock = some q → q ≠ x4.heap.size := fun q hq => by have h1 := (hA1.blk q hq).2; omega
              have hN2_10 : ∀ q, (Value.slice (some A2) n2 c2).ownBlock = some q → q ≠ x4.heap.size := fun q hq => by have h1 := (hA2.blk q hq).2; omega
              have hN3_10 : ∀ q, (Value.slice (some A3) n3 c3).ownBlock = some q → q ≠ x4.heap.size := fun q hq => by have h1 := (hA3.blk q hq).2; omega
              have hD : g9 ≠ x4.heap.size := by have := hB9.lt; omega
              have hall := And.intro hEx5 (And.intro hB10 (And.intro hG10 (And.intro hN1_10 (And.intro hN2_10 (And.intro hN3_10 (hD))))))
              clear hEx5 hB10 hG10 hN1_10 hN2_10 hN3_10 hD
              revert hall
              generalize x4.alloc (.cells #[.slice none 0 0, .int .i64 0] 34) = x5
              generalize x4.heap.size = g10
              rintro ⟨hEx5, hB10, hG10, hN1_10, hN2_10, hN3_10, hD⟩
              have hxx5 := hxx4.trans hEx5
              have hA1 := hA1.ext hEx5
              have hA2 := hA2.ext hEx5
              have hA3 := hA3.ext hEx5
              have hB9 := hB9.ext hEx5
              refine hK.out _ _ (KS.out _ hxx5) (fun hHeld => ?_)
              clear hK K
              clear hEx5
              try simp only [List.getElem_toArray, List.getElem_cons_zero, List.getElem_cons_succ, Act.put, List.setIfInBounds_toArray, List.set_cons_zero, List.set_cons_succ]
              have hD9 : g9 ≠ g10 := by first | exact hD | exact fun e => hD e.symm
              have hD10 : g10 ≠ g9 := fun e => hD9 e.symm
              obtain ⟨d0, d1⟩ := cells2 hB9
              obtain ⟨f0, f1⟩ := frozen2 hB9
              refine wpAnyH_ready (rs := [16]) (by kernel_rfl) (by simp) ?_
              refine (AllReadyH.cons rfl (fun K hK => ?_) AllReadyH.nil)
              go_simp
              have hxx5s := st2_ext hxx5 hG9 (.slice (some A1) n1 c1) (.int .i64 a)
              have hB10 := st2_farE hB10 hD9 (.slice (some A1) n1 c1) (.int .i64 a)
              have hB9 := st2_blk hB9 (.slice (some A1) n1 c1) (.int .i64 a)
              have hA1 := amp_st2 hA1 hN1_9 (.slice (some A1) n1 c1) (.int .i64 a)
              have hA2 := amp_st2 hA2 hN2_9 (.slice (some A1) n1 c1) (.int .i64 a)
              have hA3 := amp_st2 hA3 hN3_9 (.slice (some A1) n1 c1) (.int .i64 a)
              unfold st2 at hxx5s hB9 hB10 hA1 hA2 hA3
              refine hK.out _ _ (KS.out _ hxx5s) (fun hHeld => ?_)
              clear hK K d0 d1 f0 f1
              have hall := And.intro hxx5s (And.intro hB9 (And.intro hB10 (And.intro hA1 (And.intro hA2 (And.intro hA3 hHeld)))))
              clear hxx5s hB9 hB10 hA1 hA2 hA3 hHeld
              revert hall
              generalize (x5.setCell ⟨g9, 0, none⟩ (.slice (some A1) n1 c1)).setCell ⟨g9, 1, none⟩ (.int .i64 a) = x5s
              rintro ⟨hxx5s, hB9, hB10, hA1, hA2, hA3, hHeld⟩
              try simp only [List.getElem_toArray, List.getElem_cons_zero, List.getElem_cons_succ, Act.put, List.setIfInBounds_toArray, List.set_cons_zero, List.set_cons_succ]
              obtain ⟨d0, d1⟩ := cells2 hB10
              obtain ⟨f0, f1⟩ := frozen2 hB10
              refine wpAnyH_ready (rs := [17]) (by kernel_rfl) (by simp) ?_
              refine (AllReadyH.cons rfl (fun K hK => ?_) AllReadyH.nil)
              go_simp
              have hxx5ss := st2_ext hxx5s hG10 (.slice (some A2) n2 c2) (.int .i64 b)
              have hB9 := st2_farE hB9 hD10 (.slice (some A2) n2 c2) (.int .i64 b)
              have hB10 := st2_blk hB10 (.slice (some A2) n2 c2) (.int .i64 b)
              have hA1 := amp_st2 hA1 hN1_10 (.slice (some A2) n2 c2) (.int .i64 b)
              have hA2 := amp_st2 hA2 hN2_10 (.slice (some A2) n2 c2) (.int .i64 b)
              have hA3 := amp_st2 hA3 hN3_10 (.slice (some A2) n2 c2) (.int .i64 b)
              unfold st2 at hxx5ss hB9 hB10 hA1 hA2 hA3
              refine hK.out _ _ (KS.out _ hxx5ss) (fun hHeld => ?_)
              clear hK K d0 d1 f0 f1
              have hall := And.intro hxx5ss (And.intro hB9 (And.intro hB10 (And.intro hA1 (And.intro hA2 (And.intro hA3 hHeld)))))
              clear hxx5ss hB9 hB10 hA1 hA2 hA3 hHeld
              revert hall
              generalize (x5s.setCell ⟨g10, 0, none⟩ (.slice (some A2) n2 c2)).setCell ⟨g10, 1, none⟩ (.int .i64 b) = x5ss
              rintro ⟨hxx5ss, hB9, hB10, hA1, hA2, hA3, hHeld⟩
              try simp only [List.getElem_toArray, List.getElem_cons_zero, List.getElem_cons_succ, Act.put, List.setIfInBounds_toArray, List.set_cons_zero, List.set_cons_succ]
              refine wpAnyH_take (i := 18) (v := (.slice (some A3) n3 c3)) rfl (by kernel_rfl) (by kernel_rfl) (by kernel_rfl) (fun _ _ _ h => h) (Or.inl ⟨by rfl, by (intro w hSw; obtain ⟨⟨hs1, hs2⟩, ⟨hs3, hs4⟩⟩ := hSw; go_simp)⟩) hHeld ?_
              simp only [List.getElem_toArray, List.getElem_cons_zero, List.getElem_cons_succ, Act.put, List.setIfInBounds_toArray, List.set_cons_zero, List.set_cons_succ]
              refine wpAnyH_done (by kernel_rfl) ?_ _
              have HF := Lib.hid (And.intro hB9 (And.intro hB10 (And.intro hA1 (And.intro hA2 (And.intro hA3 hxx5ss)))))
              clear hB9 hB10 hA1 hA2 hA3 hHeld hN1_9 hN2_9 hN3_9 hN1_10 hN2_10 hN3_10
              go_wp2_with fail
              go_meet
              exact ⟨g9, g10, A1, n1, c1, A2, n2, c2, A3, n3, c3, rfl, rfl, rfl, Lib.hid HF.out.1, Lib.hid HF.out.2.1, Lib.hid HF.out.2.2.1, Lib.hid HF.out.2.2.2.1, Lib.hid HF.out.2.2.2.2.1, Lib.hid HF.out.2.2.2.2.2⟩
          · go_simp
            have hEx4 : Ext x3 (x3.alloc (.cells #[.slice none 0 0, .int .i64 0] 34)) := Ext.alloc _ _
            have hB10 : Blk (x3.alloc (.cells #[.slice none 0 0, .int .i64 0] 34)) x3.heap.size 34 #[.slice none 0 0, .int .i64 0] := Blk.new _ _ _
            have hG10 : W1.heap.size ≤ x3.heap.size := hxx3.hsize
            have hN1_10 : ∀ q, (Value.slice (some A1) n1 c1).ownBlock = some q → q ≠ x3.heap.size := fun q hq => by have h1 := (hA1.blk q hq).2; omega
            have hN2_10 : ∀ q, (Value.slice (some A2) n2 c2).ownBlock = some q → q ≠ x3.heap.size := fun q hq => by have h1 := (hA2.blk q hq).2; omega
            have hD : g9 ≠ x3.heap.size := by have := hB9.lt; omega
            have hall := And.intro hEx4 (And.intro hB10 (And.intro hG10 (And.intro hN1_10 (And.intro hN2_10 (hD)))))
            clear hEx4 hB10 hG10 hN1_10 hN2_10 hD
            revert hall
            generalize x3.alloc (.cells #[.slice none 0 0, .int .i64 0] 34) = x4
            generalize x3.heap.size = g10
            rintro ⟨hEx4, hB10, hG10, hN1_10, hN2_10, hD⟩
            have hxx4 := hxx3.trans hEx4
            have hA1 := hA1.ext hEx4
            have hA2 := hA2.ext hEx4
            have hB9 := hB9.ext hEx4
            refine hK.out _ _ (KS.out _ hxx4) (fun hHeld => ?_)
            clear hK K
            clear hEx4
            try simp only [List.getElem_toArray, List.getElem_cons_zero, List.getElem_cons_succ, Act.put, List.setIfInBounds_toArray, List.set_cons_zero, List.set_cons_succ]
            refine wpAnyH_ready (rs := [13]) (by kernel_rfl) (by simp) ?_
            refine (AllReadyH.cons rfl (fun K hK => ?_) AllReadyH.nil)
            · refine step_callf rfl 18 #[.slice C m e, .int .i64 77] rfl (by kernel_rfl) (fun v w' => Amp w' x4.heap.size v sg 77 ∧ Ext x4 w') ((HP3.out hxx4).mono fun e w' ⟨v, h1, h2, h3⟩ => ⟨v, h1, h2, h3⟩) ?_
              rintro v3 x5 ⟨hA3, hEx5⟩
              have hxx5 := hxx4.trans hEx5
              have hA1 := hA1.ext hEx5
              have hA2 := hA2.ext hEx5
              have hN3_9 : ∀ q, v3.ownBlock = some q → q ≠ g9 := fun q hq => by have h1 := (hA3.blk q hq).1; have h2 := hB9.lt; omega
              have hB9 := hB9.ext hEx5
              have hN3_10 : ∀ q, v3.ownBlock = some q → q ≠ g10 := fun q hq => by have h1 := (hA3.blk q hq).1; have h2 := hB10.lt; omega
              have hB10 := hB10.ext hEx5
              have hA3 := hA3.lower hxx4.hsize
              obtain ⟨A3, n3, c3, rfl⟩ := amp_slice hA3
              refine hK.out _ _ (KS.out _ hxx5) (fun hHeld => ?_)
              clear hK K
              clear hEx5
              simp only [List.getElem_toArray, List.getElem_cons_zero, List.getElem_cons_succ, Act.put, List.setIfInBounds_toArray, List.set_cons_zero, List.set_cons_succ]
              have hD9 : g9 ≠ g10 := by first | exact hD | exact fun e => hD e.symm
              have hD10 : g10 ≠ g9 := fun e => hD9 e.symm
              obtain ⟨d0, d1⟩ := cells2 hB9
              obtain ⟨f0, f1⟩ := frozen2 hB9
              refine wpAnyH_ready (rs := [16]) (by kernel_rfl) (by simp) ?_
              refine (AllReadyH.cons rfl (fun K hK => ?_) AllReadyH.nil)
              go_simp
              have hxx5s := st2_ext hxx5 hG9 (.slice (some A1) n1 c1) (.int .i64 a)
              have hB10 := st2_farE hB10 hD9 (.slice (some A1) n1 c1) (.int .i64 a)
              have hB9 := st2_blk hB9 (.slice (some A1) n1 c1) (.int .i64 a)
              have hA1 := amp_st2 hA1 hN1_9 (.slice (some A1) n1 c1) (.int .i64 a)
              have hA2 := amp_st2 hA2 hN2_9 (.slice (some A1) n1 c1) (.int .i64 a)
              have hA3 := amp_st2 hA3 hN3_9 (.slice (some A1) n1 c1) (.int .i64 a)
              unfold st2 at hxx5s hB9 hB10 hA1 hA2 hA3
              refine hK.out _ _ (KS.out _ hxx5s) (fun hHeld => ?_)
              clear hK K d0 d1 f0 f1
              have hall := And.intro hxx5s (And.intro hB9 (And.intro hB10 (And.intro hA1 (And.intro hA2 (And.intro hA3 hHeld)))))
              clear hxx5s hB9 hB10 hA1 hA2 hA3 hHeld
              revert hall
              generalize (x5.setCell ⟨g9, 0, none⟩ (.slice (some A1) n1 c1)).setCell ⟨g9, 1, none⟩ (.int .i64 a) = x5s
              rintro ⟨hxx5s, hB9, hB10, hA1, hA2, hA3, hHeld⟩
              try simp only [List.getElem_toArray, List.getElem_cons_zero, List.getElem_cons_succ, Act.put, List.setIfInBounds_toArray, List.set_cons_zero, List.set_cons_succ]
              obtain ⟨d0, d1⟩ := cells2 hB10
              obtain ⟨f0, f1⟩ := frozen2 hB10
              refine wpAnyH_ready (rs := [17]) (by kernel_rfl) (by simp) ?_
              refine (AllReadyH.cons rfl (fun K hK => ?_) AllReadyH.nil)
              go_simp
              have hxx5ss := st2_ext hxx5s hG10 (.slice (some A2) n2 c2) (.int .i64 b)
              have hB9 := st2_farE hB9 hD10 (.slice (some A2) n2 c2) (.int .i64 b)
              have hB10 := st2_blk hB10 (.slice (some A2) n2 c2) (.int .i64 b)
              have hA1 := amp_st2 hA1 hN1_10 (.slice (some A2) n2 c2) (.int .i64 b)
              have hA2 := amp_st2 hA2 hN2_10 (.slice (some A2) n2 c2) (.int .i64 b)
              have hA3 := amp_st2 hA3 hN3_10 (.slice (some A2) n2 c2) (.int .i64 b)
              unfold st2 at hxx5ss hB9 hB10 hA1 hA2 hA3
              refine hK.out _ _ (KS.out _ hxx5ss) (fun hHeld => ?_)
              clear hK K d0 d1 f0 f1
              have hall := And.intro hxx5ss (And.intro hB9 (And.intro hB10 (And.intro hA1 (And.intro hA2 (And.intro hA3 hHeld)))))
              clear hxx5ss hB9 hB10 hA1 hA2 hA3 hHeld
              revert hall
              generalize (x5s.setCell ⟨g10, 0, none⟩ (.slice (some A2) n2 c2)).setCell ⟨g10, 1, none⟩ (.int .i64 b) = x5ss
              rintro ⟨hxx5ss, hB9, hB10, hA1, hA2, hA3, hHeld⟩
              try simp only [List.getElem_toArray, List.getElem_cons_zero, List.getElem_cons_succ, Act.put, List.setIfInBounds_toArray, List.set_cons_zero, List.set_cons_succ]
              refine wpAnyH_take (i := 18) (v := (.slice (some A3) n3 c3)) rfl (by kernel_rfl) (by kernel_rfl) (by kernel_rfl) (fun _ _ _ h => h) (Or.inl ⟨by rfl, by (intro w hSw; obtain ⟨⟨hs1, hs2⟩, ⟨hs3, hs4⟩⟩ := hSw; go_simp)⟩) hHeld ?_
              simp only [List.getElem_toArray, List.getElem_cons_zero, List.getElem_cons_succ, Act.put, List.setIfInBounds_toArray, List.set_cons_zero, List.set_cons_succ]
              refine wpAnyH_done (by kernel_rfl) ?_ _
              have HF := Lib.hid (And.intro hB9 (And.intro hB10 (And.intro hA1 (And.intro hA2 (And.intro hA3 hxx5ss)))))
              clear hB9 hB10 hA1 hA2 hA3 hHeld hN1_9 hN2_9 hN3_9 hN1_10 hN2_10 hN3_10
              go_wp2_with fail
              go_meet
              exact ⟨g9, g10, A1, n1, c1, A2, n2, c2, A3, n3, c3, rfl, rfl, rfl, Lib.hid HF.out.1, Lib.hid HF.out.2.1, Lib.hid HF.out.2.2.1, Lib.hid HF.out.2.2.2.1, Lib.hid HF.out.2.2.2.2.1, Lib.hid HF.out.2.2.2.2.2⟩
        · go_simp
          have hEx3 : Ext x2 (x2.alloc (.cells #[.slice none 0 0, .int .i64 0] 34)) := Ext.alloc _ _
          have hB10 : Blk (x2.alloc (.cells #[.slice none 0 0, .int .i64 0] 34)) x2.heap.size 34 #[.slice none 0 0, .int .i64 0] := Blk.new _ _ _
          have hG10 : W1.heap.size ≤ x2.heap.size := hxx2.hsize
          have hN1_10 : ∀ q, (Value.slice (some A1) n1 c1).ownBlock = some q → q ≠ x2.heap.size := fun q hq => by have h1 := (hA1.blk q hq).2; omega
          have hD : g9 ≠ x2.heap.size := by have := hB9.lt; omega
          have hall := And.intro hEx3 (And.intro hB10 (And.intro hG10 (And.intro hN1_10 (hD))))
          clear hEx3 hB10 hG10 hN1_10 hD
          revert hall
          generalize x2.alloc (.cells #[.slice none 0 0, .int .i64 0] 34) = x3
          generalize x2.heap.size = g10
          rintro ⟨hEx3, hB10, hG10, hN1_10, hD⟩
          have hxx3 := hxx2.trans hEx3
          have hA1 := hA1.ext hEx3
          have hB9 := hB9.ext hEx3
          refine hK.out _ _ (KS.out _ hxx3) (fun hHeld => ?_)
          clear hK K
          clear hEx3
          try simp only [List.getElem_toArray, List.getElem_cons_zero, List.getElem_cons_succ, Act.put, List.setIfInBounds_toArray, List.set_cons_zero, List.set_cons_succ]
          refine wpAnyH_ready (rs := [8]) (by kernel_rfl) (by simp) ?_
          refine (AllReadyH.cons rfl (fun K hK => ?_) AllReadyH.nil)
          · refine step_callf rfl 18 #[.slice B q d, .int .i64 77] rfl (by kernel_rfl) (fun v w' => Amp w' x3.heap.size v l2 77 ∧ Ext x3 w') ((HP2.out hxx3).mono fun e w' ⟨v, h1, h2, h3⟩ => ⟨v, h1, h2, h3⟩) ?_
            rintro v2 x4 ⟨hA2, hEx4⟩
            have hxx4 := hxx3.trans hEx4
            have hA1 := hA1.ext hEx4
            have hN2_9 : ∀ q, v2.ownBlock = some q → q ≠ g9 := fun q hq => by have h1 := (hA2.blk q hq).1; have h2 := hB9.lt; omega
            have hB9 := hB9.ext hEx4
            have hN2_10 : ∀ q, v2.ownBlock = some q → q ≠ g10 := fun q hq => by have h1 := (hA2.blk q hq).1; have h2 := hB10.lt; omega
            have hB10 := hB10.ext hEx4
            have hA2 := hA2.lower hxx3.hsize
            obtain ⟨A2, n2, c2, rfl⟩ := amp_slice hA2
            refine hK.out _ _ (KS.out _ hxx4) (fun hHeld => ?_)
            clear hK K
            clear hEx4
            simp only [List.getElem_toArray, List.getElem_cons_zero, List.getElem_cons_succ, Act.put, List.setIfInBounds_toArray, List.set_cons_zero, List.set_cons_succ]
            refine wpAnyH_take (i := 11) (v := (.agg #[.slice (some A2) n2 c2, .int .i64 b])) rfl (by kernel_rfl) (by kernel_rfl) (by kernel_rfl) (fun _ _ _ h => h) (Or.inl ⟨by rfl, by (intro w hSw; obtain ⟨⟨hs1, hs2⟩, ⟨hs3, hs4⟩⟩ := hSw; go_simp)⟩) hHeld ?_
            simp only [List.getElem_toArray, List.getElem_cons_zero, List.getElem_cons_succ, Act.put, List.setIfInBounds_toArray, List.set_cons_zero, List.set_cons_succ]
            refine wpAnyH_ready (rs := [13]) (by kernel_rfl) (by simp) ?_
            refine (AllReadyH.cons rfl (fun K hK => ?_) AllReadyH.nil)
            · refine step_callf rfl 18 #[.slice C m e, .int .i64 77] rfl (by kernel_rfl) (fun v w' => Amp w' x4.heap.size v sg 77 ∧ Ext x4 w') ((HP3.out hxx4).mono fun e w' ⟨v, h1, h2, h3⟩ => ⟨v, h1, h2, h3⟩) ?_
              rintro v3 x5 ⟨hA3, hEx5⟩
              have hxx5 := hxx4.trans hEx5
              have hA1 := hA1.ext hEx5
              have hA2 := hA2.ext hEx5
              have hN3_9 : ∀ q, v3.ownBlock = some q → q ≠ g9 := fun q hq => by have h1 := (hA3.blk q hq).1; have h2 := hB9.lt; omega
              have hB9 := hB9.ext hEx5
              have hN3_10 : ∀ q, v3.ownBlock = some q → q ≠ g10 := fun q hq => by have h1 := (hA3.blk q hq).1; have h2 := hB10.lt; omega
              have hB10 := hB10.ext hEx5
              have hA3 := hA3.lower hxx4.hsize
              obtain ⟨A3, n3, c3, rfl⟩ := amp_slice hA3
              refine hK.out _ _ (KS.out _ hxx5) (fun hHeld => ?_)
              clear hK K
              clear hEx5
              simp only [List.getElem_toArray, List.getElem_cons_zero, List.getElem_cons_succ, Act.put, List.setIfInBounds_toArray, List.set_cons_zero, List.set_cons_succ]
              have hD9 : g9 ≠ g10 := by first | exact hD | exact fun e => hD e.symm
              have hD10 : g10 ≠ g9 := fun e => hD9 e.symm
              obtain ⟨d0, d1⟩ := cells2 hB9
              obtain ⟨f0, f1⟩ := frozen2 hB9
              refine wpAnyH_ready (rs := [16]) (by kernel_rfl) (by simp) ?_
              refine (AllReadyH.cons rfl (fun K hK => ?_) AllReadyH.nil)
              go_simp
              have hxx5s := st2_ext hxx5 hG9 (.slice (some A1) n1 c1) (.int .i64 a)
              have hB10 := st2_farE hB10 hD9 (.slice (some A1) n1 c1) (.int .i64 a)
              have hB9 := st2_blk hB9 (.slice (some A1) n1 c1) (.int .i64 a)
              have hA1 := amp_st2 hA1 hN1_9 (.slice (some A1) n1 c1) (.int .i64 a)
              have hA2 := amp_st2 hA2 hN2_9 (.slice (some A1) n1 c1) (.int .i64 a)
              have hA3 := amp_st2 hA3 hN3_9 (.slice (some A1) n1 c1) (.int .i64 a)
              unfold st2 at hxx5s hB9 hB10 hA1 hA2 hA3
              refine hK.out _ _ (KS.out _ hxx5s) (fun hHeld => ?_)
              clear hK K d0 d1 f0 f1
              have hall := And.intro hxx5s (And.intro hB9 (And.intro hB10 (And.intro hA1 (And.intro hA2 (And.intro hA3 hHeld)))))
              clear hxx5s hB9 hB10 hA1 hA2 hA3 hHeld
              revert hall
              generalize (x5.setCell ⟨g9, 0, none⟩ (.slice (some A1) n1 c1)).setCell ⟨g9, 1, none⟩ (.int .i64 a) = x5s
              rintro ⟨hxx5s, hB9, hB10, hA1, hA2, hA3, hHeld⟩
              try simp only [List.getElem_toArray, List.getElem_cons_zero, List.getElem_cons_succ, Act.put, List.setIfInBounds_toArray, List.set_cons_zero, List.set_cons_succ]
              obtain ⟨d0, d1⟩ := cells2 hB10
              obtain ⟨f0, f1⟩ := frozen2 hB10
              refine wpAnyH_ready (rs := [17]) (by kernel_rfl) (by simp) ?_
              refine (AllReadyH.cons rfl (fun K hK => ?_) AllReadyH.nil)
              go_simp
              have hxx5ss := st2_ext hxx5s hG10 (.slice (some A2) n2 c2) (.int .i64 b)
              have hB9 := st2_farE hB9 hD10 (.slice (some A2) n2 c2) (.int .i64 b)
              have hB10 := st2_blk hB10 (.slice (some A2) n2 c2) (.int .i64 b)
              have hA1 := amp_st2 hA1 hN1_10 (.slice (some A2) n2 c2) (.int .i64 b)
              have hA2 := amp_st2 hA2 hN2_10 (.slice (some A2) n2 c2) (.int .i64 b)
              have hA3 := amp_st2 hA3 hN3_10 (.slice (some A2) n2 c2) (.int .i64 b)
              unfold st2 at hxx5ss hB9 hB10 hA1 hA2 hA3
              refine hK.out _ _ (KS.out _ hxx5ss) (fun hHeld => ?_)
              clear hK K d0 d1 f0 f1
              have hall := And.intro hxx5ss (And.intro hB9 (And.intro hB10 (And.intro hA1 (And.intro hA2 (And.intro hA3 hHeld)))))
              clear hxx5ss hB9 hB10 hA1 hA2 hA3 hHeld
              revert hall
              generalize (x5s.setCell ⟨g10, 0, none⟩ (.slice (some A2) n2 c2)).setCell ⟨g10, 1, none⟩ (.int .i64 b) = x5ss
              rintro ⟨hxx5ss, hB9, hB10, hA1, hA2, hA3, hHeld⟩
              try simp only [List.getElem_toArray, List.getElem_cons_zero, List.getElem_cons_succ, Act.put, List.setIfInBounds_toArray, List.set_cons_zero, List.set_cons_succ]
              refine wpAnyH_take (i := 18) (v := (.slice (some A3) n3 c3)) rfl (by kernel_rfl) (by kernel_rfl) (by kernel_rfl) (fun _ _ _ h => h) (Or.inl ⟨by rfl, by (intro w hSw; obtain ⟨⟨hs1, hs2⟩, ⟨hs3, hs4⟩⟩ := hSw; go_simp)⟩) hHeld ?_
              simp only [List.getElem_toArray, List.getElem_cons_zero, List.getElem_cons_succ, Act.put, List.setIfInBounds_toArray, List.set_cons_zero, List.set_cons_succ]
              refine wpAnyH_done (by kernel_rfl) ?_ _
              have HF := Lib.hid (And.intro hB9 (And.intro hB10 (And.intro hA1 (And.intro hA2 (And.intro hA3 hxx5ss)))))
              clear hB9 hB10 hA1 hA2 hA3 hHeld hN1_9 hN2_9 hN3_9 hN1_10 hN2_10 hN3_10
              go_wp2_with fail
              go_meet
              exact ⟨g9, g10, A1, n1, c1, A2, n2, c2, A3, n3, c3, rfl, rfl, rfl, Lib.hid HF.out.1, Lib.hid HF.out.2.1, Lib.hid HF.out.2.2.1, Lib.hid HF.out.2.2.2.1, Lib.hid HF.out.2.2.2.2.1, Lib.hid HF.out.2.2.2.2.2⟩
      · go_simp
        have hEx2 : Ext x1 (x1.alloc (.cells #[.slice none 0 0, .int .i64 0] 34)) := Ext.alloc _ _
        have hB10 : Blk (x1.alloc (.cells #[.slice none 0 0, .int .i64 0] 34)) x1.heap.size 34 #[.slice none 0 0, .int .i64 0] := Blk.new _ _ _
        have hG10 : W1.heap.size ≤ x1.heap.size := hxx1.hsize
        have hN1_10 : ∀ q, (Value.slice (some A1) n1 c1).ownBlock = some q → q ≠ x1.heap.size := fun q hq => by have h1 := (hA1.blk q hq).2; omega
        have hall := And.intro hEx2 (And.intro hB10 (And.intro hG10 (hN1_10)))
        clear hEx2 hB10 hG10 hN1_10
        revert hall
        generalize x1.alloc (.cells #[.slice none 0 0, .int .i64 0] 34) = x2
        generalize x1.heap.size = g10
        rintro ⟨hEx2, hB10, hG10, hN1_10⟩
        have hxx2 := hxx1.trans hEx2
        have hA1 := hA1.ext hEx2
        refine hK.out _ _ (KS.out _ hxx2) (fun hHeld => ?_)
        clear hK K
        clear hEx2
        try simp only [List.getElem_toArray, List.getElem_cons_zero, List.getElem_cons_succ, Act.put, List.setIfInBounds_toArray, List.set_cons_zero, List.set_cons_succ]
        refine wpAnyH_ready (rs := [8, 14]) (by kernel_rfl) (by simp) ?_
        refine (AllReadyH.cons rfl (fun K hK => ?_) (AllReadyH.cons rfl (fun K hK => ?_) AllReadyH.nil))
        · refine step_callf rfl 18 #[.slice B q d, .int .i64 77] rfl (by kernel_rfl) (fun v w' => Amp w' x2.heap.size v l2 77 ∧ Ext x2 w') ((HP2.out hxx2).mono fun e w' ⟨v, h1, h2, h3⟩ => ⟨v, h1, h2, h3⟩) ?_
          rintro v2 x3 ⟨hA2, hEx3⟩
          have hxx3 := hxx2.trans hEx3
          have hA1 := hA1.ext hEx3
          have hN2_10 : ∀ q, v2.ownBlock = some q → q ≠ g10 := fun q hq => by have h1 := (hA2.blk q hq).1; have h2 := hB10.lt; omega
          have hB10 := hB10.ext hEx3
          have hA2 := hA2.lower hxx2.hsize
          obtain ⟨A2, n2, c2, rfl⟩ := amp_slice hA2
          refine hK.out _ _ (KS.out _ hxx3) (fun hHeld => ?_)
          clear hK K
          clear hEx3
          simp only [List.getElem_toArray, List.getElem_cons_zero, List.getElem_cons_succ, Act.put, List.setIfInBounds_toArray, List.set_cons_zero, List.set_cons_succ]
          refine wpAnyH_take (i := 11) (v := (.agg #[.slice (some A2) n2 c2, .int .i64 b])) rfl (by kernel_rfl) (by kernel_rfl) (by kernel_rfl) (fun _ _ _ h => h) (Or.inl ⟨by rfl, by (intro w hSw; obtain ⟨⟨hs1, hs2⟩, ⟨hs3, hs4⟩⟩ := hSw; go_simp)⟩) hHeld ?_
          simp only [List.getElem_toArray, List.getElem_cons_zero, List.getElem_cons_succ, Act.put, List.setIfInBounds_toArray, List.set_cons_zero, List.set_cons_succ]
          refine wpAnyH_ready (rs := [13, 14]) (by kernel_rfl) (by simp) ?_
          refine (AllReadyH.cons rfl (fun K hK => ?_) (AllReadyH.cons rfl (fun K hK => ?_) AllReadyH.nil))
          · refine step_callf rfl 18 #[.slice C m e, .int .i64 77] rfl (by kernel_rfl) (fun v w' => Amp w' x3.heap.size v sg 77 ∧ Ext x3 w') ((HP3.out hxx3).mono fun e w' ⟨v, h1, h2, h3⟩ => ⟨v, h1, h2, h3⟩) ?_
            rintro v3 x4 ⟨hA3, hEx4⟩
            have hxx4 := hxx3.trans hEx4
            have hA1 := hA1.ext hEx4
            have hA2 := hA2.ext hEx4
            have hN3_10 : ∀ q, v3.ownBlock = some q → q ≠ g10 := fun q hq => by have h1 := (hA3.blk q hq).1; have h2 := hB10.lt; omega
            have hB10 := hB10.ext hEx4
            have hA3 := hA3.lower hxx3.hsize
            obtain ⟨A3, n3, c3, rfl⟩ := amp_slice hA3
            refine hK.out _ _ (KS.out _ hxx4) (fun hHeld => ?_)
            clear hK K
            clear hEx4
            simp only [List.getElem_toArray, List.getElem_cons_zero, List.getElem_cons_succ, Act.put, List.setIfInBounds_toArray, List.set_cons_zero, List.set_cons_succ]
            refine wpAnyH_ready (rs := [14]) (by kernel_rfl) (by simp) ?_
            refine (AllReadyH.cons rfl (fun K hK => ?_) AllReadyH.nil)
            · go_simp
              have hEx5 : Ext x4 (x4.alloc (.cells #[.slice none 0 0, .int .i64 0] 34)) := Ext.alloc _ _
              have hB9 : Blk (x4.alloc (.cells #[.slice none 0 0, .int .i64 0] 34)) x4.heap.size 34 #[.slice none 0 0, .int .i64 0] := Blk.new _ _ _
              have hG9 : W1.heap.size ≤ x4.heap.size := hxx4.hsize
              have hN1_9 : ∀ q, (Value.slice (some A1) n1 c1).ownBlock = some q → q ≠ x4.heap.size := fun q hq => by have h1 := (hA1.blk q hq).2; omega
              have hN2_9 : ∀ q, (Value.slice (some A2) n2 c2).ownBlock = some q → q ≠ x4.heap.size := fun q hq => by have h1 := (hA2.blk q hq).2; omega
              have hN3_9 : ∀ q, (Value.slice (some A3) n3 c3).ownBlock = some q → q ≠ x4.heap.size := fun q hq => by have h1 := (hA3.blk q hq).2; omega
              have hD : g10 ≠ x4.heap.size := by have := hB10.lt; omega
              have hall := And.intro hEx5 (And.intro hB9 (And.intro hG9 (And.intro hN1_9 (And.intro hN2_9 (And.intro hN3_9 (hD))))))
              clear hEx5 hB9 hG9 hN1_9 hN2_9 hN3_9 hD
              revert hall
              generalize x4.alloc (.cells #[.slice none 0 0, .int .i64 0] 34) = x5
              generalize x4.heap.size = g9
              rintro ⟨hEx5, hB9, hG9, hN1_9, hN2_9, hN3_9, hD⟩
              have hxx5 := hxx4.trans hEx5
              have hA1 := hA1.ext hEx5
              have hA2 := hA2.ext hEx5
              have hA3 := hA3.ext hEx5
              have hB10 := hB10.ext hEx5
              refine hK.out _ _ (KS.out _ hxx5) (fun hHeld => ?_)
              clear hK K
              clear hEx5
              try simp only [List.getElem_toArray, List.getElem_cons_zero, List.getElem_cons_succ, Act.put, List.setIfInBounds_toArray, List.set_cons_zero, List.set_cons_succ]
              have hD9 : g9 ≠ g10 := by first | exact hD | exact fun e => hD e.symm
              have hD10 : g10 ≠ g9 := fun e => hD9 e.symm
              obtain ⟨d0, d1⟩ := cells2 hB9
              obtain ⟨f0, f1⟩ := frozen2 hB9
              refine wpAnyH_ready (rs := [16]) (by kernel_rfl) (by simp) ?_
              refine (AllReadyH.cons rfl (fun K hK => ?_) AllReadyH.nil)
              go_simp
              have hxx5s := st2_ext hxx5 hG9 (.slice (some A1) n1 c1) (.int .i64 a)
              have hB10 := st2_farE hB10 hD9 (.slice (some A1) n1 c1) (.int .i64 a)
              have hB9 := st2_blk hB9 (.slice (some A1) n1 c1) (.int .i64 a)
              have hA1 := amp_st2 hA1 hN1_9 (.slice (some A1) n1 c1) (.int .i64 a)
              have hA2 := amp_st2 hA2 hN2_9 (.slice (some A1) n1 c1) (.int .i64 a)
              have hA3 := amp_st2 hA3 hN3_9 (.slice (some A1) n1 c1) (.int .i64 a)
              unfold st2 at hxx5s hB9 hB10 hA1 hA2 hA3
              refine hK.out _ _ (KS.out _ hxx5s) (fun hHeld => ?_)
              clear hK K d0 d1 f0 f1
              have hall := And.intro hxx5s (And.intro hB9 (And.intro hB10 (And.intro hA1 (And.intro hA2 (And.intro hA3 hHeld)))))
              clear hxx5s hB9 hB10 hA1 hA2 hA3 hHeld
              revert hall
              generalize (x5.setCell ⟨g9, 0, none⟩ (.slice (some A1) n1 c1)).setCell ⟨g9, 1, none⟩ (.int .i64 a) = x5s
              rintro ⟨hxx5s, hB9, hB10, hA1, hA2, hA3, hHeld⟩
              try simp only [List.getElem_toArray, List.getElem_cons_zero, List.getElem_cons_succ, Act.put, List.setIfInBounds_toArray, List.set_cons_zero, List.set_cons_succ]
              obtain ⟨d0, d1⟩ := cells2 hB10
              obtain ⟨f0, f1⟩ := frozen2 hB10
              refine wpAnyH_ready (rs := [17]) (by kernel_rfl) (by simp) ?_
              refine (AllReadyH.cons rfl (fun K hK => ?_) AllReadyH.nil)
              go_simp
              have hxx5ss := st2_ext hxx5s hG10 (.slice (some A2) n2 c2) (.int .i64 b)
              have hB9 := st2_farE hB9 hD10 (.slice (some A2) n2 c2) (.int .i64 b)
              have hB10 := st2_blk hB10 (.slice (some A2) n2 c2) (.int .i64 b)
              have hA1 := amp_st2 hA1 hN1_10 (.slice (some A2) n2 c2) (.int .i64 b)
              have hA2 := amp_st2 hA2 hN2_10 (.slice (some A2) n2 c2) (.int .i64 b)
              have hA3 := amp_st2 hA3 hN3_10 (.slice (some A2) n2 c2) (.int .i64 b)
              unfold st2 at hxx5ss hB9 hB10 hA1 hA2 hA3
              refine hK.out _ _ (KS.out _ hxx5ss) (fun hHeld => ?_)
              clear hK K d0 d1 f0 f1
              have hall := And.intro hxx5ss (And.intro hB9 (And.intro hB10 (And.intro hA1 (And.intro hA2 (And.intro hA3 hHeld)))))
              clear hxx5ss hB9 hB10 hA1 hA2 hA3 hHeld
              revert hall
              generalize (x5s.setCell ⟨g10, 0, none⟩ (.slice (some A2) n2 c2)).setCell ⟨g10, 1, none⟩ (.int .i64 b) = x5ss
              rintro ⟨hxx5ss, hB9, hB10, hA1, hA2, hA3, hHeld⟩
              try simp only [List.getElem_toArray, List.getElem_cons_zero, List.getElem_cons_succ, Act.put, List.setIfInBounds_toArray, List.set_cons_zero, List.set_cons_succ]
              refine wpAnyH_take (i := 18) (v := (.slice (some A3) n3 c3)) rfl (by kernel_rfl) (by kernel_rfl) (by kernel_rfl) (fun _ _ _ h => h) (Or.inl ⟨by rfl, by (intro w hSw; obtain ⟨⟨hs1, hs2⟩, ⟨hs3, hs4⟩⟩ := hSw; go_simp)⟩) hHeld ?_
              simp only [List.getElem_toArray, List.getElem_cons_zero, List.getElem_cons_succ, Act.put, List.setIfInBounds_toArray, List.set_cons_zero, List.set_cons_succ]
              refine wpAnyH_done (by kernel_rfl) ?_ _
              have HF := Lib.hid (And.intro hB9 (And.intro hB10 (And.intro hA1 (And.intro hA2 (And.intro hA3 hxx5ss)))))
              clear hB9 hB10 hA1 hA2 hA3 hHeld hN1_9 hN2_9 hN3_9 hN1_10 hN2_10 hN3_10
              go_wp2_with fail
              go_meet
              exact ⟨g9, g10, A1, n1, c1, A2, n2, c2, A3, n3, c3, rfl, rfl, rfl, Lib.hid HF.out.1, Lib.hid HF.out.2.1, Lib.hid HF.out.2.2.1, Lib.hid HF.out.2.2.2.1, Lib.hid HF.out.2.2.2.2.1, Lib.hid HF.out.2.2.2.2.2⟩
          · go_simp
            have hEx4 : Ext x3 (x3.alloc (.cells #[.slice none 0 0, .int .i64 0] 34)) := Ext.alloc _ _
            have hB9 : Blk (x3.alloc (.cells #[.slice none 0 0, .int .i64 0] 34)) x3.heap.size 34 #[.slice none 0 0, .int .i64 0] := Blk.new _ _ _
            have hG9 : W1.heap.size ≤ x3.heap.size := hxx3.hsize
            have hN1_9 : ∀ q, (Value.slice (some A1) n1 c1).ownBlock = some q → q ≠ x3.heap.size := fun q hq => by have h1 := (hA1.blk q hq).2; omega
            have hN2_9 : ∀ q, (Value.slice (some A2) n2 c2).ownBlock = some q → q ≠ x3.heap.size := fun q hq => by have h1 := (hA2.blk q hq).2; omega
            have hD : g10 ≠ x3.heap.size := by have := hB10.lt; omega
            have hall := And.intro hEx4 (And.intro hB9 (And.intro hG9 (And.intro hN1_9 (And.intro hN2_9 (hD)))))
            clear hEx4 hB9 hG9 hN1_9 hN2_9 hD
            revert hall
            generalize x3.alloc (.cells #[.slice none 0 0, .int .i64 0] 34) = x4
            generalize x3.heap.size = g9
            rintro ⟨hEx4, hB9, hG9, hN1_9, hN2_9, hD⟩
            have hxx4 := hxx3.trans hEx4
            have hA1 := hA1.ext hEx4
            have hA2 := hA2.ext hEx4
            have hB10 := hB10.ext hEx4
            refine hK.out _ _ (KS.out _ hxx4) (fun hHeld => ?_)
            clear hK K
            clear hEx4
            try simp only [List.getElem_toArray, List.getElem_cons_zero, List.getElem_cons_succ, Act.put, List.setIfInBounds_toArray, List.set_cons_zero, List.set_cons_succ]
            refine wpAnyH_ready (rs := [13]) (by kernel_rfl) (by simp) ?_
            refine (AllReadyH.cons rfl (fun K hK => ?_) AllReadyH.nil)
            · refine step_callf rfl 18 #[.slice C m e, .int .i64 77] rfl (by kernel_rfl) (fun v w' => Amp w' x4.heap.size v sg 77 ∧ Ext x4 w') ((HP3.out hxx4).mono fun e w' ⟨v, h1, h2, h3⟩ => ⟨v, h1, h2, h3⟩) ?_
              rintro v3 x5 ⟨hA3, hEx5⟩
              have hxx5 := hxx4.trans hEx5
              have hA1 := hA1.ext hEx5
              have hA2 := hA2.ext hEx5
              have hN3_9 : ∀ q, v3.ownBlock = some q → q ≠ g9 := fun q hq => by have h1 := (hA3.blk q hq).1; have h2 := hB9.lt; omega
              have hB9 := hB9.ext hEx5
              have hN3_10 : ∀ q, v3.ownBlock = some q → q ≠ g10 := fun q hq => by have h1 := (hA3.blk q hq).1; have h2 := hB10.lt; omega
              have hB10 := hB10.ext hEx5
              have hA3 := hA3.lower hxx4.hsize
              obtain ⟨A3, n3, c3, rfl⟩ := amp_slice hA3
              refine hK.out _ _ (KS.out _ hxx5) (fun hHeld => ?_)
              clear hK K
              clear hEx5
              simp only [List.getElem_toArray, List.getElem_cons_zero, List.getElem_cons_succ, Act.put, List.setIfInBounds_toArray, List.set_cons_zero, List.set_cons_succ]
              have hD9 : g9 ≠ g10 := by first | exact hD | exact fun e => hD e.symm
              have hD10 : g10 ≠ g9 := fun e => hD9 e.symm
              obtain ⟨d0, d1⟩ := cells2 hB9
              obtain ⟨f0, f1⟩ := frozen2 hB9
              refine wpAnyH_ready (rs := [16]) (by kernel_rfl) (by simp) ?_
              refine (AllReadyH.cons rfl (fun K hK => ?_) AllReadyH.nil)
              go_simp
              have hxx5s := st2_ext hxx5 hG9 (.slice (some A1) n1 c1) (.int .i64 a)
              have hB10 := st2_farE hB10 hD9 (.slice (some A1) n1 c1) (.int .i64 a)
              have hB9 := st2_blk hB9 (.slice (some A1) n1 c1) (.int .i64 a)
              have hA1 := amp_st2 hA1 hN1_9 (.slice (some A1) n1 c1) (.int .i64 a)
              have hA2 := amp_st2 hA2 hN2_9 (.slice (some A1) n1 c1) (.int .i64 a)
              have hA3 := amp_st2 hA3 hN3_9 (.slice (some A1) n1 c1) (.int .i64 a)
              unfold st2 at hxx5s hB9 hB10 hA1 hA2 hA3
              refine hK.out _ _ (KS.out _ hxx5s) (fun hHeld => ?_)
              clear hK K d0 d1 f0 f1
              have hall := And.intro hxx5s (And.intro hB9 (And.intro hB10 (And.intro hA1 (And.intro hA2 (And.intro hA3 hHeld)))))
              clear hxx5s hB9 hB10 hA1 hA2 hA3 hHeld
              revert hall
              generalize (x5.setCell ⟨g9, 0, none⟩ (.slice (some A1) n1 c1)).setCell ⟨g9, 1, none⟩ (.int .i64 a) = x5s
              rintro ⟨hxx5s, hB9, hB10, hA1, hA2, hA3, hHeld⟩
              try simp only [List.getElem_toArray, List.getElem_cons_zero, List.getElem_cons_succ, Act.put, List.setIfInBounds_toArray, List.set_cons_zero, List.set_cons_succ]
              obtain ⟨d0, d1⟩ := cells2 hB10
              obtain ⟨f0, f1⟩ := frozen2 hB10
              refine wpAnyH_ready (rs := [17]) (by kernel_rfl) (by simp) ?_
              refine (AllReadyH.cons rfl (fun K hK => ?_) AllReadyH.nil)
              go_simp
              have hxx5ss := st2_ext hxx5s hG10 (.slice (some A2) n2 c2) (.int .i64 b)
              have hB9 := st2_farE hB9 hD10 (.slice (some A2) n2 c2) (.int .i64 b)
              have hB10 := st2_blk hB10 (.slice (some A2) n2 c2) (.int .i64 b)
              have hA1 := amp_st2 hA1 hN1_10 (.slice (some A2) n2 c2) (.int .i64 b)
              have hA2 := amp_st2 hA2 hN2_10 (.slice (some A2) n2 c2) (.int .i64 b)
              have hA3 := amp_st2 hA3 hN3_10 (.slice (some A2) n2 c2) (.int .i64 b)
              unfold st2 at hxx5ss hB9 hB10 hA1 hA2 hA3
              refine hK.out _ _ (KS.out _ hxx5ss) (fun hHeld => ?_)
              clear hK K d0 d1 f0 f1
              have hall := And.intro hxx5ss (And.intro hB9 (And.intro hB10 (And.intro hA1 (And.intro hA2 (And.intro hA3 hHeld)))))
              clear hxx5ss hB9 hB10 hA1 hA2 hA3 hHeld
              revert hall
              generalize (x5s.setCell ⟨g10, 0, none⟩ (.slice (some A2) n2 c2)).setCell ⟨g10, 1, none⟩ (.int .i64 b) = x5ss
              rintro ⟨hxx5ss, hB9, hB10, hA1, hA2, hA3, hHeld⟩
              try simp only [List.getElem_toArray, List.getElem_cons_zero, List.getElem_cons_succ, Act.put, List.setIfInBounds_toArray, List.set_cons_zero, List.set_cons_succ]
              refine wpAnyH_take (i := 18) (v := (.slice (some A3) n3 c3)) rfl (by kernel_rfl) (by kernel_rfl) (by kernel_rfl) (fun _ _ _ h => h) (Or.inl ⟨by rfl, by (intro w hSw; obtain ⟨⟨hs1, hs2⟩, ⟨hs3, hs4⟩⟩ := hSw; go_simp)⟩) hHeld ?_
              simp only [List.getElem_toArray, List.getElem_cons_zero, List.getElem_cons_succ, Act.put, List.setIfInBounds_toArray, List.set_cons_zero, List.set_cons_succ]
              refine wpAnyH_done (by kernel_rfl) ?_ _
              have HF := Lib.hid (And.intro hB9 (And.intro hB10 (And.intro hA1 (And.intro hA2 (And.intro hA3 hxx5ss)))))
              clear hB9 hB10 hA1 hA2 hA3 hHeld hN1_9 hN2_9 hN3_9 hN1_10 hN2_10 hN3_10
              go_wp2_with fail
              go_meet
              exact ⟨g9, g10, A1, n1, c1, A2, n2, c2, A3, n3, c3, rfl, rfl, rfl, Lib.hid HF.out.1, Lib.hid HF.out.2.1, Lib.hid HF.out.2.2.1, Lib.hid HF.out.2.2.2.1, Lib.hid HF.out.2.2.2.2.1, Lib.hid HF.out.2.2.2.2.2⟩
        · go_simp
          have hEx3 : Ext x2 (x2.alloc (.cells #[.slice none 0 0, .int .i64 0] 34)) := Ext.alloc _ _
          have hB9 : Blk (x2.alloc (.cells #[.slice none 0 0, .int .i64 0] 34)) x2.heap.size 34 #[.slice none 0 0, .int .i64 0] := Blk.new _ _ _
          have hG9 : W1.heap.size ≤ x2.heap.size := hxx2.hsize
          have hN1_9 : ∀ q, (Value.slice (some A1) n1 c1).ownBlock = some q → q ≠ x2.heap.size := fun q hq => by have h1 := (hA1.blk q hq).2; omega
          have hD : g10 ≠ x2.heap.size := by have := hB10.lt; omega
          have hall := And.intro hEx3 (And.intro hB9 (And.intro hG9 (And.intro hN1_9 (hD))))
          clear hEx3 hB9 hG9 hN1_9 hD
          revert hall
          generalize x2.alloc (.cells #[.slice none 0 0, .int .i64 0] 34) = x3
          generalize x2.heap.size = g9
          rintro ⟨hEx3, hB9, hG9, hN1_9, hD⟩
          have hxx3 := hxx2.trans hEx3
          have hA1 := hA1.ext hEx3
          have hB10 := hB10.ext hEx3
          refine hK.out _ _ (KS.out _ hxx3) (fun hHeld => ?_)
          clear hK K
          clear hEx3
          try simp only [List.getElem_toArray, List.getElem_cons_zero, List.getElem_cons_succ, Act.put, List.setIfInBounds_toArray, List.set_cons_zero, List.set_cons_succ]
          refine wpAnyH_ready (rs := [8]) (by kernel_rfl) (by simp) ?_
          refine (AllReadyH.cons rfl (fun K hK => ?_) AllReadyH.nil)
          · refine step_callf rfl 18 #[.slice B q d, .int .i64 77] rfl (by kernel_rfl) (fun v w' => Amp w' x3.heap.size v l2 77 ∧ Ext x3 w') ((HP2.out hxx3).mono fun e w' ⟨v, h1, h2, h3⟩ => ⟨v, h1, h2, h3⟩) ?_
            rintro v2 x4 ⟨hA2, hEx4⟩
            have hxx4 := hxx3.trans hEx4
            have hA1 := hA1.ext hEx4
            have hN2_9 : ∀ q, v2.ownBlock = some q → q ≠ g9 := fun q hq => by have h1 := (hA2.blk q hq).1; have h2 := hB9.lt; omega
            have hB9 := hB9.ext hEx4
            have hN2_10 : ∀ q, v2.ownBlock = some q → q ≠ g10 := fun q hq => by have h1 := (hA2.blk q hq).1; have h2 := hB10.lt; omega
            have hB10 := hB10.ext hEx4
            have hA2 := hA2.lower hxx3.hsize
            obtain ⟨A2, n2, c2, rfl⟩ := amp_slice hA2
            refine hK.out _ _ (KS.out _ hxx4) (fun hHeld => ?_)
            clear hK K
            clear hEx4
            simp only [List.getElem_toArray, List.getElem_cons_zero, List.getElem_cons_succ, Act.put, List.setIfInBounds_toArray, List.set_cons_zero, List.set_cons_succ]
            refine wpAnyH_take (i := 11) (v := (.agg #[.slice (some A2) n2 c2, .int .i64 b])) rfl (by kernel_rfl) (by kernel_rfl) (by kernel_rfl) (fun _ _ _ h => h) (Or.inl ⟨by rfl, by (intro w hSw; obtain ⟨⟨hs1, hs2⟩, ⟨hs3, hs4⟩⟩ := hSw; go_simp)⟩) hHeld ?_
            simp only [List.getElem_toArray, List.getElem_cons_zero, List.getElem_cons_succ, Act.put, List.setIfInBounds_toArray, List.set_cons_zero, List.set_cons_succ]
            refine wpAnyH_ready (rs := [13]) (by kernel_rfl) (by simp) ?_
            refine (AllReadyH.cons rfl (fun K hK => ?_) AllReadyH.nil)
            · refine step_callf rfl 18 #[.slice C m e, .int .i64 77] rfl (by kernel_rfl) (fun v w' => Amp w' x4.heap.size v sg 77 ∧ Ext x4 w') ((HP3.out hxx4).mono fun e w' ⟨v, h1, h2, h3⟩ => ⟨v, h1, h2, h3⟩) ?_
              rintro v3 x5 ⟨hA3, hEx5⟩
              have hxx5 := hxx4.trans hEx5
              have hA1 := hA1.ext hEx5
              have hA2 := hA2.ext hEx5
              have hN3_9 : ∀ q, v3.ownBlock = some q → q ≠ g9 := fun q hq => by have h1 := (hA3.blk q hq).1; have h2 := hB9.lt; omega
              have hB9 := hB9.ext hEx5
              have hN3_10 : ∀ q, v3.ownBlock = some q → q ≠ g10 := fun q hq => by have h1 := (hA3.blk q hq).1; have h2 := hB10.lt; omega
              have hB10 := hB10.ext hEx5
              have hA3 := hA3.lower hxx4.hsize
              obtain ⟨A3, n3, c3, rfl⟩ := amp_slice hA3
              refine hK.out _ _ (KS.out _ hxx5) (fun hHeld => ?_)
              clear hK K
              clear hEx5
              simp only [List.getElem_toArray, List.getElem_cons_zero, List.getElem_cons_succ, Act.put, List.setIfInBounds_toArray, List.set_cons_zero, List.set_cons_succ]
              have hD9 : g9 ≠ g10 := by first | exact hD | exact fun e => hD e.symm
              have hD10 : g10 ≠ g9 := fun e => hD9 e.symm
              obtain ⟨d0, d1⟩ := cells2 hB9
              obtain ⟨f0, f1⟩ := frozen2 hB9
              refine wpAnyH_ready (rs := [16]) (by kernel_rfl) (by simp) ?_
              refine (AllReadyH.cons rfl (fun K hK => ?_) AllReadyH.nil)
              go_simp
              have hxx5s := st2_ext hxx5 hG9 (.slice (some A1) n1 c1) (.int .i64 a)
              have hB10 := st2_farE hB10 hD9 (.slice (some A1) n1 c1) (.int .i64 a)
              have hB9 := st2_blk hB9 (.slice (some A1) n1 c1) (.int .i64 a)
              have hA1 := amp_st2 hA1 hN1_9 (.slice (some A1) n1 c1) (.int .i64 a)
              have hA2 := amp_st2 hA2 hN2_9 (.slice (some A1) n1 c1) (.int .i64 a)
              have hA3 := amp_st2 hA3 hN3_9 (.slice (some A1) n1 c1) (.int .i64 a)
              unfold st2 at hxx5s hB9 hB10 hA1 hA2 hA3
              refine hK.out _ _ (KS.out _ hxx5s) (fun hHeld => ?_)
              clear hK K d0 d1 f0 f1
              have hall := And.intro hxx5s (And.intro hB9 (And.intro hB10 (And.intro hA1 (And.intro hA2 (And.intro hA3 hHeld)))))
              clear hxx5s hB9 hB10 hA1 hA2 hA3 hHeld
              revert hall
              generalize (x5.setCell ⟨g9, 0, none⟩ (.slice (some A1) n1 c1)).setCell ⟨g9, 1, none⟩ (.int .i64 a) = x5s
              rintro ⟨hxx5s, hB9, hB10, hA1, hA2, hA3, hHeld⟩
              try simp only [List.getElem_toArray, List.getElem_cons_zero, List.getElem_cons_succ, Act.put, List.setIfInBounds_toArray, List.set_cons_zero, List.set_cons_succ]
              obtain ⟨d0, d1⟩ := cells2 hB10
              obtain ⟨f0, f1⟩ := frozen2 hB10
              refine wpAnyH_ready (rs := [17]) (by kernel_rfl) (by simp) ?_
              refine (AllReadyH.cons rfl (fun K hK => ?_) AllReadyH.nil)
              go_simp
              have hxx5ss := st2_ext hxx5s hG10 (.slice (some A2) n2 c2) (.int .i64 b)
              have hB9 := st2_farE hB9 hD10 (.slice (some A2) n2 c2) (.int .i64 b)
              have hB10 := st2_blk hB10 (.slice (some A2) n2 c2) (.int .i64 b)
              have hA1 := amp_st2 hA1 hN1_10 (.slice (some A2) n2 c2) (.int .i64 b)
              have hA2 := amp_st2 hA2 hN2_10 (.slice (some A2) n2 c2) (.int .i64 b)
              have hA3 := amp_st2 hA3 hN3_10 (.slice (some A2) n2 c2) (.int .i64 b)
              unfold st2 at hxx5ss hB9 hB10 hA1 hA2 hA3
              refine hK.out _ _ (KS.out _ hxx5ss) (fun hHeld => ?_)
              clear hK K d0 d1 f0 f1
              have hall := And.intro hxx5ss (And.intro hB9 (And.intro hB10 (And.intro hA1 (And.intro hA2 (And.intro hA3 hHeld)))))
              clear hxx5ss hB9 hB10 hA1 hA2 hA3 hHeld
              revert hall
              generalize (x5s.setCell ⟨g10, 0, none⟩ (.slice (some A2) n2 c2)).setCell ⟨g10, 1, none⟩ (.int .i64 b) = x5ss
              rintro ⟨hxx5ss, hB9, hB10, hA1, hA2, hA3, hHeld⟩
              try simp only [List.getElem_toArray, List.getElem_cons_zero, List.getElem_cons_succ, Act.put, List.setIfInBounds_toArray, List.set_cons_zero, List.set_cons_succ]
              refine wpAnyH_take (i := 18) (v := (.slice (some A3) n3 c3)) rfl (by kernel_rfl) (by kernel_rfl) (by kernel_rfl) (fun _ _ _ h => h) (Or.inl ⟨by rfl, by (intro w hSw; obtain ⟨⟨hs1, hs2⟩, ⟨hs3, hs4⟩⟩ := hSw; go_simp)⟩) hHeld ?_
              simp only [List.getElem_toArray, List.getElem_cons_zero, List.getElem_cons_succ, Act.put, List.setIfInBounds_toArray, List.set_cons_zero, List.set_cons_succ]
              refine wpAnyH_done (by kernel_rfl) ?_ _
              have HF := Lib.hid (And.intro hB9 (And.intro hB10 (And.intro hA1 (And.intro hA2 (And.intro hA3 hxx5ss)))))
              clear hB9 hB10 hA1 hA2 hA3 hHeld hN1_9 hN2_9 hN3_9 hN1_10 hN2_10 hN3_10
              go_wp2_with fail
              go_meet
              exact ⟨g9, g10, A1, n1, c1, A2, n2, c2, A3, n3, c3, rfl, rfl, rfl, Lib.hid HF.out.1, Lib.hid HF.out.2.1, Lib.hid HF.out.2.2.1, Lib.hid HF.out.2.2.2.1, Lib.hid HF.out.2.2.2.2.1, Lib.hid HF.out.2.2.2.2.2⟩
    · go_simp
      have hEx1 : Ext x0 (x0.alloc (.cells #[.slice none 0 0, .int .i64 0] 34)) := Ext.alloc _ _
      have hB9 : Blk (x0.alloc (.cells #[.slice none 0 0, .int .i64 0] 34)) x0.heap.size 34 #[.slice none 0 0, .int .i64 0] := Blk.new _ _ _
      have hG9 : W1.heap.size ≤ x0.heap.size := hxx0.hsize
      have hall := And.intro hEx1 (And.intro hB9 (hG9))
      clear hEx1 hB9 hG9
      revert hall
      generalize x0.alloc (.cells #[.slice none 0 0, .int .i64 0] 34) = x1
      generalize x0.heap.size = g9
      rintro ⟨hEx1, hB9, hG9⟩
      have hxx1 := hxx0.trans hEx1
      refine hK.out _ _ (KS.out _ hxx1) (fun hHeld => ?_)
      clear hK K
      clear hEx1
      try simp only [List.getElem_toArray, List.getElem_cons_zero, List.getElem_cons_succ, Act.put, List.setIfInBounds_toArray, List.set_cons_zero, List.set_cons_succ]
      refine wpAnyH_ready (rs := [2, 15]) (by kernel_rfl) (by simp) ?_
      refine (AllReadyH.cons rfl (fun K hK => ?_) (AllReadyH.cons rfl (fun K hK => ?_) AllReadyH.nil))
      · refine step_callf rfl 18 #[.slice A n c, .int .i64 77] rfl (by kernel_rfl) (fun v w' => Amp w' x1.heap.size v l 77 ∧ Ext x1 w') ((HP1.out hxx1).mono fun e w' ⟨v, h1, h2, h3⟩ => ⟨v, h1, h2, h3⟩) ?_
        rintro v1 x2 ⟨hA1, hEx2⟩
        have hxx2 := hxx1.trans hEx2
        have hN1_9 : ∀ q, v1.ownBlock = some q → q ≠ g9 := fun q hq => by have h1 := (hA1.blk q hq).1; have h2 := hB9.lt; omega
        have hB9 := hB9.ext hEx2
        have hA1 := hA1.lower hxx1.hsize
        obtain ⟨A1, n1, c1, rfl⟩ := amp_slice hA1
        refine hK.out _ _ (KS.out _ hxx2) (fun hHeld => ?_)
        clear hK K
        clear hEx2
        simp only [List.getElem_toArray, List.getElem_cons_zero, List.getElem_cons_succ, Act.put, List.setIfInBounds_toArray, List.set_cons_zero, List.set_cons_succ]
        refine wpAnyH_take (i := 5) (v := (.agg #[.slice (some A1) n1 c1, .int .i64 a])) rfl (by kernel_rfl) (by kernel_rfl) (by kernel_rfl) (fun _ _ _ h => h) (Or.inl ⟨by rfl, by (intro w hSw; obtain ⟨⟨hs1, hs2⟩, ⟨hs3, hs4⟩⟩ := hSw; go_simp)⟩) hHeld ?_
        simp only [List.getElem_toArray, List.getElem_cons_zero, List.getElem_cons_succ, Act.put, List.setIfInBounds_toArray, List.set_cons_zero, List.set_cons_succ]
        refine wpAnyH_ready (rs := [8, 15]) (by kernel_rfl) (by simp) ?_
        refine (AllReadyH.cons rfl (fun K hK => ?_) (AllReadyH.cons rfl (fun K hK => ?_) AllReadyH.nil))
        · refine step_callf rfl 18 #[.slice B q d, .int .i64 77] rfl (by kernel_rfl) (fun v w' => Amp w' x2.heap.size v l2 77 ∧ Ext x2 w') ((HP2.out hxx2).mono fun e w' ⟨v, h1, h2, h3⟩ => ⟨v, h1, h2, h3⟩) ?_
          rintro v2 x3 ⟨hA2, hEx3⟩
          have hxx3 := hxx2.trans hEx3
          have hA1 := hA1.ext hEx3
          have hN2_9 : ∀ q, v2.ownBlock = some q → q ≠ g9 := fun q hq => by have h1 := (hA2.blk q hq).1; have h2 := hB9.lt; omega
          have hB9 := hB9.ext hEx3
          have hA2 := hA2.lower hxx2.hsize
          obtain ⟨A2, n2, c2, rfl⟩ := amp_slice hA2
          refine hK.out _ _ (KS.out _ hxx3) (fun hHeld => ?_)
          clear hK K
          clear hEx3
          simp only [List.getElem_toArray, List.getElem_cons_zero, List.getElem_cons_succ, Act.put, List.setIfInBounds_toArray, List.set_cons_zero, List.set_cons_succ]
          refine wpAnyH_take (i := 11) (v := (.agg #[.slice (some A2) n2 c2, .int .i64 b])) rfl (by kernel_rfl) (by kernel_rfl) (by kernel_rfl) (fun _ _ _ h => h) (Or.inl ⟨by rfl, by (intro w hSw; obtain ⟨⟨hs1, hs2⟩, ⟨hs3, hs4⟩⟩ := hSw; go_simp)⟩) hHeld ?_
          simp only [List.getElem_toArray, List.getElem_cons_zero, List.getElem_cons_succ, Act.put, List.setIfInBounds_toArray, List.set_cons_zero, List.set_cons_succ]
          refine wpAnyH_ready (rs := [13, 15]) (by kernel_rfl) (by simp) ?_
          refine (AllReadyH.cons rfl (fun K hK => ?_) (AllReadyH.cons rfl (fun K hK => ?_) AllReadyH.nil))
          · refine step_callf rfl 18 #[.slice C m e, .int .i64 77] rfl (by kernel_rfl) (fun v w' => Amp w' x3.heap.size v sg 77 ∧ Ext x3 w') ((HP3.out hxx3).mono fun e w' ⟨v, h1, h2, h3⟩ => ⟨v, h1, h2, h3⟩) ?_
            rintro v3 x4 ⟨hA3, hEx4⟩
            have hxx4 := hxx3.trans hEx4
            have hA1 := hA1.ext hEx4
            have hA2 := hA2.ext hEx4
            have hN3_9 : ∀ q, v3.ownBlock = some q → q ≠ g9 := fun q hq => by have h1 := (hA3.blk q hq).1; have h2 := hB9.lt; omega
            have hB9 := hB9.ext hEx4
            have hA3 := hA3.lower hxx3.hsize
            obtain ⟨A3, n3, c3, rfl⟩ := amp_slice hA3
            refine hK.out _ _ (KS.out _ hxx4) (fun hHeld => ?_)
            clear hK K
            clear hEx4
            simp only [List.getElem_toArray, List.getElem_cons_zero, List.getElem_cons_succ, Act.put, List.setIfInBounds_toArray, List.set_cons_zero, List.set_cons_succ]
            refine wpAnyH_ready (rs := [15]) (by kernel_rfl) (by simp) ?_
            refine (AllReadyH.cons rfl (fun K hK => ?_) AllReadyH.nil)
            · go_simp
              have hEx5 : Ext x4 (x4.alloc (.cells #[.slice none 0 0, .int .i64 0] 34)) := Ext.alloc _ _
              have hB10 : Blk (x4.alloc (.cells #[.slice none 0 0, .int .i64 0] 34)) x4.heap.size 34 #[.slice none 0 0, .int .i64 0] := Blk.new _ _ _
              have hG10 : W1.heap.size ≤ x4.heap.size := hxx4.hsize
              have hN1_10 : ∀ q, (Value.slice (some A1) n1 c1).ownBlock = some q → q ≠ x4.heap.size := fun q hq => by have h1 := (hA1.blk q hq).2; omega
              have hN2_10 : ∀ q, (Value.slice (some A2) n2 c2).ownBlock = some q → q ≠ x4.heap.size := fun q hq => by have h1 := (hA2.blk q hq).2; omega
              have hN3_10 : ∀ q, (Value.slice (some A3) n3 c3).ownBlock = some q → q ≠ x4.heap.size := fun q hq => by have h1 := (hA3.blk q hq).2; omega
              have hD : g9 ≠ x4.heap.size := by have := hB9.lt; omega
              have hall := And.intro hEx5 (And.intro hB10 (And.intro hG10 (And.intro hN1_10 (And.intro hN2_10 (And.intro hN3_10 (hD))))))
              clear hEx5 hB10 hG10 hN1_10 hN2_10 hN3_10 hD
              revert hall
              generalize x4.alloc (.cells #[.slice none 0 0, .int .i64 0] 34) = x5
              generalize x4.heap.size = g10
              rintro ⟨hEx5, hB10, hG10, hN1_10, hN2_10, hN3_10, hD⟩
              have hxx5 := hxx4.trans hEx5
              have hA1 := hA1.ext hEx5
              have hA2 := hA2.ext hEx5
              have hA3 := hA3.ext hEx5
              have hB9 := hB9.ext hEx5
              refine hK.out _ _ (KS.out _ hxx5) (fun hHeld => ?_)
              clear hK K
              clear hEx5
              try simp only [List.getElem_toArray, List.getElem_cons_zero, List.getElem_cons_succ, Act.put, List.setIfInBounds_toArray, List.set_cons_zero, List.set_cons_succ]
              have hD9 : g9 ≠ g10 := by first | exact hD | exact fun e => hD e.symm
              have hD10 : g10 ≠ g9 := fun e => hD9 e.symm
              obtain ⟨d0, d1⟩ := cells2 hB9
              obtain ⟨f0, f1⟩ := frozen2 hB9
              refine wpAnyH_ready (rs := [16]) (by kernel_rfl) (by simp) ?_
              refine (AllReadyH.cons rfl (fun K hK => ?_) AllReadyH.nil)
              go_simp
              have hxx5s := st2_ext hxx5 hG9 (.slice (some A1) n1 c1) (.int .i64 a)
              have hB10 := st2_farE hB10 hD9 (.slice (some A1) n1 c1) (.int .i64 a)
              have hB9 := st2_blk hB9 (.slice (some A1) n1 c1) (.int .i64 a)
              have hA1 := amp_st2 hA1 hN1_9 (.slice (some A1) n1 c1) (.int .i64 a)
              have hA2 := amp_st2 hA2 hN2_9 (.slice (some A1) n1 c1) (.int .i64 a)
              have hA3 := amp_st2 hA3 hN3_9 (.slice (some A1) n1 c1) (.int .i64 a)
              unfold st2 at hxx5s hB9 hB10 hA1 hA2 hA3
              refine hK.out _ _ (KS.out _ hxx5s) (fun hHeld => ?_)
              clear hK K d0 d1 f0 f1
              have hall := And.intro hxx5s (And.intro hB9 (And.intro hB10 (And.intro hA1 (And.intro hA2 (And.intro hA3 hHeld)))))
              clear hxx5s hB9 hB10 hA1 hA2 hA3 hHeld
              revert hall
              generalize (x5.setCell ⟨g9, 0, none⟩ (.slice (some A1) n1 c1)).setCell ⟨g9, 1, none⟩ (.int .i64 a) = x5s
              rintro ⟨hxx5s, hB9, hB10, hA1, hA2, hA3, hHeld⟩
              try simp only [List.getElem_toArray, List.getElem_cons_zero, List.getElem_cons_succ, Act.put, List.setIfInBounds_toArray, List.set_cons_zero, List.set_cons_succ]
              obtain ⟨d0, d1⟩ := cells2 hB10
              obtain ⟨f0, f1⟩ := frozen2 hB10
              refine wpAnyH_ready (rs := [17]) (by kernel_rfl) (by simp) ?_
              refine (AllReadyH.cons rfl (fun K hK => ?_) AllReadyH.nil)
              go_simp
              have hxx5ss := st2_ext hxx5s hG10 (.slice (some A2) n2 c2) (.int .i64 b)
              have hB9 := st2_farE hB9 hD10 (.slice (some A2) n2 c2) (.int .i64 b)
              have hB10 := st2_blk hB10 (.slice (some A2) n2 c2) (.int .i64 b)
              have hA1 := amp_st2 hA1 hN1_10 (.slice (some A2) n2 c2) (.int .i64 b)
              have hA2 := amp_st2 hA2 hN2_10 (.slice (some A2) n2 c2) (.int .i64 b)
              have hA3 := amp_st2 hA3 hN3_10 (.slice (some A2) n2 c2) (.int .i64 b)
              unfold st2 at hxx5ss hB9 hB10 hA1 hA2 hA3
              refine hK.out _ _ (KS.out _ hxx5ss) (fun hHeld => ?_)
              clear hK K d0 d1 f0 f1
              have hall := And.intro hxx5ss (And.intro hB9 (And.intro hB10 (And.intro hA1 (And.intro hA2 (And.intro hA3 hHeld)))))
              clear hxx5ss hB9 hB10 hA1 hA2 hA3 hHeld
              revert hall
              generalize (x5s.setCell ⟨g10, 0, none⟩ (.slice (some A2) n2 c2)).setCell ⟨g10, 1, none⟩ (.int .i64 b) = x5ss
              rintro ⟨hxx5ss, hB9, hB10, hA1, hA2, hA3, hHeld⟩
              try simp only [List.getElem_toArray, List.getElem_cons_zero, List.getElem_cons_succ, Act.put, List.setIfInBounds_toArray, List.set_cons_zero, List.set_cons_succ]
              refine wpAnyH_take (i := 18) (v := (.slice (some A3) n3 c3)) rfl (by kernel_rfl) (by kernel_rfl) (by kernel_rfl) (fun _ _ _ h => h) (Or.inl ⟨by rfl, by (intro w hSw; obtain ⟨⟨hs1, hs2⟩, ⟨hs3, hs4⟩⟩ := hSw; go_simp)⟩) hHeld ?_
              simp only [List.getElem_toArray, List.getElem_cons_zero, List.getElem_cons_succ, Act.put, List.setIfInBounds_toArray, List.set_cons_zero, List.set_cons_succ]
              refine wpAnyH_done (by kernel_rfl) ?_ _
              have HF := Lib.hid (And.intro hB9 (And.intro hB10 (And.intro hA1 (And.intro hA2 (And.intro hA3 hxx5ss)))))
              clear hB9 hB10 hA1 hA2 hA3 hHeld hN1_9 hN2_9 hN3_9 hN1_10 hN2_10 hN3_10
              go_wp2_with fail
              go_meet
              exact ⟨g9, g10, A1, n1, c1, A2, n2, c2, A3, n3, c3, rfl, rfl, rfl, Lib.hid HF.out.1, Lib.hid HF.out.2.1, Lib.hid HF.out.2.2.1, Lib.hid HF.out.2.2.2.1, Lib.hid HF.out.2.2.2.2.1, Lib.hid HF.out.2.2.2.2.2⟩
          · go_simp
            have hEx4 : Ext x3 (x3.alloc (.cells #[.slice none 0 0, .int .i64 0] 34)) := Ext.alloc _ _
            have hB10 : Blk (x3.alloc (.cells #[.slice none 0 0, .int .i64 0] 34)) x3.heap.size 34 #[.slice none 0 0, .int .i64 0] := Blk.new _ _ _
            have hG10 : W1.heap.size ≤ x3.heap.size := hxx3.hsize
            have hN1_10 : ∀ q, (Value.slice (some A1) n1 c1).ownBlock = some q → q ≠ x3.heap.size := fun q hq => by have h1 := (hA1.blk q hq).2; omega
            have hN2_10 : ∀ q, (Value.slice (some A2) n2 c2).ownBlock = some q → q ≠ x3.heap.size := fun q hq => by have h1 := (hA2.blk q hq).2; omega
            have hD : g9 ≠ x3.heap.size := by have := hB9.lt; omega
            have hall := And.intro hEx4 (And.intro hB10 (And.intro hG10 (And.intro hN1_10 (And.intro hN2_10 (hD)))))
            clear hEx4 hB10 hG10 hN1_10 hN2_10 hD
            revert hall
            generalize x3.alloc (.cells #[.slice none 0 0, .int .i64 0] 34) = x4
            generalize x3.heap.size = g10
            rintro ⟨hEx4, hB10, hG10, hN1_10, hN2_10, hD⟩
            have hxx4 := hxx3.trans hEx4
            have hA1 := hA1.ext hEx4
            have hA2 := hA2.ext hEx4
            have hB9 := hB9.ext hEx4
            refine hK.out _ _ (KS.out _ hxx4) (fun hHeld => ?_)
            clear hK K
            clear hEx4
            try simp only [List.getElem_toArray, List.getElem_cons_zero, List.getElem_cons_succ, Act.put, List.setIfInBounds_toArray, List.set_cons_zero, List.set_cons_succ]
            refine wpAnyH_ready (rs := [13]) (by kernel_rfl) (by simp) ?_
            refine (AllReadyH.cons rfl (fun K hK => ?_) AllReadyH.nil)
            · refine step_callf rfl 18 #[.slice C m e, .int .i64 77] rfl (by kernel_rfl) (fun v w' => Amp w' x4.heap.size v sg 77 ∧ Ext x4 w') ((HP3.out hxx4).mono fun e w' ⟨v, h1, h2, h3⟩ => ⟨v, h1, h2, h3⟩) ?_
              rintro v3 x5 ⟨hA3, hEx5⟩
              have hxx5 := hxx4.trans hEx5
              have hA1 := hA1.ext hEx5
              have hA2 := hA2.ext hEx5
              have hN3_9 : ∀ q, v3.ownBlock = some q → q ≠ g9 := fun q hq => by have h1 := (hA3.blk q hq).1; have h2 := hB9.lt; omega
              have hB9 := hB9.ext hEx5
              have hN3_10 : ∀ q, v3.ownBlock = some q → q ≠ g10 := fun q hq => by have h1 := (hA3.blk q hq).1; have h2 := hB10.lt; omega
              have hB10 := hB10.ext hEx5
              have hA3 := hA3.lower hxx4.hsize
              obtain ⟨A3, n3, c3, rfl⟩ := amp_slice hA3
              refine hK.out _ _ (KS.out _ hxx5) (fun hHeld => ?_)
              clear hK K
              clear hEx5
              simp only [List.getElem_toArray, List.getElem_cons_zero, List.getElem_cons_succ, Act.put, List.setIfInBounds_toArray, List.set_cons_zero, List.set_cons_succ]
              have hD9 : g9 ≠ g10 := by first | exact hD | exact fun e => hD e.symm
              have hD10 : g10 ≠ g9 := fun e => hD9 e.symm
              obtain ⟨d0, d1⟩ := cells2 hB9
              obtain ⟨f0, f1⟩ := frozen2 hB9
              refine wpAnyH_ready (rs := [16]) (by kernel_rfl) (by simp) ?_
              refine (AllReadyH.cons rfl (fun K hK => ?_) AllReadyH.nil)
              go_simp
              have hxx5s := st2_ext hxx5 hG9 (.slice (some A1) n1 c1) (.int .i64 a)
              have hB10 := st2_farE hB10 hD9 (.slice (some A1) n1 c1) (.int .i64 a)
              have hB9 := st2_blk hB9 (.slice (some A1) n1 c1) (.int .i64 a)
              have hA1 := amp_st2 hA1 hN1_9 (.slice (some A1) n1 c1) (.int .i64 a)
              have hA2 := amp_st2 hA2 hN2_9 (.slice (some A1) n1 c1) (.int .i64 a)
              have hA3 := amp_st2 hA3 hN3_9 (.slice (some A1) n1 c1) (.int .i64 a)
              unfold st2 at hxx5s hB9 hB10 hA1 hA2 hA3
              refine hK.out _ _ (KS.out _ hxx5s) (fun hHeld => ?_)
              clear hK K d0 d1 f0 f1
              have hall := And.intro hxx5s (And.intro hB9 (And.intro hB10 (And.intro hA1 (And.intro hA2 (And.intro hA3 hHeld)))))
              clear hxx5s hB9 hB10 hA1 hA2 hA3 hHeld
              revert hall
              generalize (x5.setCell ⟨g9, 0, none⟩ (.slice (some A1) n1 c1)).setCell ⟨g9, 1, none⟩ (.int .i64 a) = x5s
              rintro ⟨hxx5s, hB9, hB10, hA1, hA2, hA3, hHeld⟩
              try simp only [List.getElem_toArray, List.getElem_cons_zero, List.getElem_cons_succ, Act.put, List.setIfInBounds_toArray, List.set_cons_zero, List.set_cons_succ]
              obtain ⟨d0, d1⟩ := cells2 hB10
              obtain ⟨f0, f1⟩ := frozen2 hB10
              refine wpAnyH_ready (rs := [17]) (by kernel_rfl) (by simp) ?_
              refine (AllReadyH.cons rfl (fun K hK => ?_) AllReadyH.nil)
              go_simp
              have hxx5ss := st2_ext hxx5s hG10 (.slice (some A2) n2 c2) (.int .i64 b)
              have hB9 := st2_farE hB9 hD10 (.slice (some A2) n2 c2) (.int .i64 b)
              have hB10 := st2_blk hB10 (.slice (some A2) n2 c2) (.int .i64 b)
              have hA1 := amp_st2 hA1 hN1_10 (.slice (some A2) n2 c2) (.int .i64 b)
              have hA2 := amp_st2 hA2 hN2_10 (.slice (some A2) n2 c2) (.int .i64 b)
              have hA3 := amp_st2 hA3 hN3_10 (.slice (some A2) n2 c2) (.int .i64 b)
              unfold st2 at hxx5ss hB9 hB10 hA1 hA2 hA3
              refine hK.out _ _ (KS.out _ hxx5ss) (fun hHeld => ?_)
              clear hK K d0 d1 f0 f1
              have hall := And.intro hxx5ss (And.intro hB9 (And.intro hB10 (And.intro hA1 (And.intro hA2 (And.intro hA3 hHeld)))))
              clear hxx5ss hB9 hB10 hA1 hA2 hA3 hHeld
              revert hall
              generalize (x5s.setCell ⟨g10, 0, none⟩ (.slice (some A2) n2 c2)).setCell ⟨g10, 1, none⟩ (.int .i64 b) = x5ss
              rintro ⟨hxx5ss, hB9, hB10, hA1, hA2, hA3, hHeld⟩
              try simp only [List.getElem_toArray, List.getElem_cons_zero, List.getElem_cons_succ, Act.put, List.setIfInBounds_toArray, List.set_cons_zero, List.set_cons_succ]
              refine wpAnyH_take (i := 18) (v := (.slice (some A3) n3 c3)) rfl (by kernel_rfl) (by kernel_rfl) (by kernel_rfl) (fun _ _ _ h => h) (Or.inl ⟨by rfl, by (intro w hSw; obtain ⟨⟨hs1, hs2⟩, ⟨hs3, hs4⟩⟩ := hSw; go_simp)⟩) hHeld ?_
              simp only [List.getElem_toArray, List.getElem_cons_zero, List.getElem_cons_succ, Act.put, List.setIfInBounds_toArray, List.set_cons_zero, List.set_cons_succ]
              refine wpAnyH_done (by kernel_rfl) ?_ _
              have HF := Lib.hid (And.intro hB9 (And.intro hB10 (And.intro hA1 (And.intro hA2 (And.intro hA3 hxx5ss)))))
              clear hB9 hB10 hA1 hA2 hA3 hHeld hN1_9 hN2_9 hN3_9 hN1_10 hN2_10 hN3_10
              go_wp2_with fail
              go_meet
              exact ⟨g9, g10, A1, n1, c1, A2, n2, c2, A3, n3, c3, rfl, rfl, rfl, Lib.hid HF.out.1, Lib.hid HF.out.2.1, Lib.hid HF.out.2.2.1, Lib.hid HF.out.2.2.2.1, Lib.hid HF.out.2.2.2.2.1, Lib.hid HF.out.2.2.2.2.2⟩
        · go_simp
          have hEx3 : Ext x2 (x2.alloc (.cells #[.slice none 0 0, .int .i64 0] 34)) := Ext.alloc _ _
          have hB10 : Blk (x2.alloc (.cells #[.slice none 0 0, .int .i64 0] 34)) x2.heap.size 34 #[.slice none 0 0, .int .i64 0] := Blk.new _ _ _
          have hG10 : W1.heap.size ≤ x2.heap.size := hxx2.hsize
          have hN1_10 : ∀ q, (Value.slice (some A1) n1 c1).ownBlock = some q → q ≠ x2.heap.size := fun q hq => by have h1 := (hA1.blk q hq).2; omega
          have hD : g9 ≠ x2.heap.size := by have := hB9.lt; omega
          have hall := And.intro hEx3 (And.intro hB10 (And.intro hG10 (And.intro hN1_10 (hD))))
          clear hEx3 hB10 hG10 hN1_10 hD
          revert hall
          generalize x2.alloc (.cells #[.slice none 0 0, .int .i64 0] 34) = x3
          generalize x2.heap.size = g10
          rintro ⟨hEx3, hB10, hG10, hN1_10, hD⟩
          have hxx3 := hxx2.trans hEx3
          have hA1 := hA1.ext hEx3
          have hB9 := hB9.ext hEx3
          refine hK.out _ _ (KS.out _ hxx3) (fun hHeld => ?_)
          clear hK K
          clear hEx3
          try simp only [List.getElem_toArray, List.getElem_cons_zero, List.getElem_cons_succ, Act.put, List.setIfInBounds_toArray, List.set_cons_zero, List.set_cons_succ]
          refine wpAnyH_ready (rs := [8]) (by kernel_rfl) (by simp) ?_
          refine (AllReadyH.cons rfl (fun K hK => ?_) AllReadyH.nil)
          · refine step_callf rfl 18 #[.slice B q d, .int .i64 77] rfl (by kernel_rfl) (fun v w' => Amp w' x3.heap.size v l2 77 ∧ Ext x3 w') ((HP2.out hxx3).mono fun e w' ⟨v, h1, h2, h3⟩ => ⟨v, h1, h2, h3⟩) ?_
            rintro v2 x4 ⟨hA2, hEx4⟩
            have hxx4 := hxx3.trans hEx4
            have hA1 := hA1.ext hEx4
            have hN2_9 : ∀ q, v2.ownBlock = some q → q ≠ g9 := fun q hq => by have h1 := (hA2.blk q hq).1; have h2 := hB9.lt; omega
            have hB9 := hB9.ext hEx4
            have hN2_10 : ∀ q, v2.ownBlock = some q → q ≠ g10 := fun q hq => by have h1 := (hA2.blk q hq).1; have h2 := hB10.lt; omega
            have hB10 := hB10.ext hEx4
            have hA2 := hA2.lower hxx3.hsize
            obtain ⟨A2, n2, c2, rfl⟩ := amp_slice hA2
            refine hK.out _ _ (KS.out _ hxx4) (fun hHeld => ?_)
            clear hK K
            clear hEx4
            simp only [List.getElem_toArray, List.getElem_cons_zero, List.getElem_cons_succ, Act.put, List.setIfInBounds_toArray, List.set_cons_zero, List.set_cons_succ]
            refine wpAnyH_take (i := 11) (v := (.agg #[.slice (some A2) n2 c2, .int .i64 b])) rfl (by kernel_rfl) (by kernel_rfl) (by kernel_rfl) (fun _ _ _ h => h) (Or.inl ⟨by rfl, by (intro w hSw; obtain ⟨⟨hs1, hs2⟩, ⟨hs3, hs4⟩⟩ := hSw; go_simp)⟩) hHeld ?_
            simp only [List.getElem_toArray, List.getElem_cons_zero, List.getElem_cons_succ, Act.put, List.setIfInBounds_toArray, List.set_cons_zero, List.set_cons_succ]
            refine wpAnyH_ready (rs := [13]) (by kernel_rfl) (by simp) ?_
            refine (AllReadyH.cons rfl (fun K hK => ?_) AllReadyH.nil)
            · refine step_callf rfl 18 #[.slice C m e, .int .i64 77] rfl (by kernel_rfl) (fun v w' => Amp w' x4.heap.size v sg 77 ∧ Ext x4 w') ((HP3.out hxx4).mono fun e w' ⟨v, h1, h2, h3⟩ => ⟨v, h1, h2, h3⟩) ?_
              rintro v3 x5 ⟨hA3, hEx5⟩
              have hxx5 := hxx4.trans hEx5
              have hA1 := hA1.ext hEx5
              have hA2 := hA2.ext hEx5
              have hN3_9 : ∀ q, v3.ownBlock = some q → q ≠ g9 := fun q hq => by have h1 := (hA3.blk q hq).1; have h2 := hB9.lt; omega
              have hB9 := hB9.ext hEx5
              have hN3_10 : ∀ q, v3.ownBlock = some q → q ≠ g10 := fun q hq => by have h1 := (hA3.blk q hq).1; have h2 := hB10.lt; omega
              have hB10 := hB10.ext hEx5
              have hA3 := hA3.lower hxx4.hsize
              obtain ⟨A3, n3, c3, rfl⟩ := amp_slice hA3
              refine hK.out _ _ (KS.out _ hxx5) (fun hHeld => ?_)
              clear hK K
              clear hEx5
              simp only [List.getElem_toArray, List.getElem_cons_zero, List.getElem_cons_succ, Act.put, List.setIfInBounds_toArray, List.set_cons_zero, List.set_cons_succ]
              have hD9 : g9 ≠ g10 := by first | exact hD | exact fun e => hD e.symm
              have hD10 : g10 ≠ g9 := fun e => hD9 e.symm
              obtain ⟨d0, d1⟩ := cells2 hB9
              obtain ⟨f0, f1⟩ := frozen2 hB9
              refine wpAnyH_ready (rs := [16]) (by kernel_rfl) (by simp) ?_
              refine (AllReadyH.cons rfl (fun K hK => ?_) AllReadyH.nil)
              go_simp
              have hxx5s := st2_ext hxx5 hG9 (.slice (some A1) n1 c1) (.int .i64 a)
              have hB10 := st2_farE hB10 hD9 (.slice (some A1) n1 c1) (.int .i64 a)
              have hB9 := st2_blk hB9 (.slice (some A1) n1 c1) (.int .i64 a)
              have hA1 := amp_st2 hA1 hN1_9 (.slice (some A1) n1 c1) (.int .i64 a)
              have hA2 := amp_st2 hA2 hN2_9 (.slice (some A1) n1 c1) (.int .i64 a)
              have hA3 := amp_st2 hA3 hN3_9 (.slice (some A1) n1 c1) (.int .i64 a)
              unfold st2 at hxx5s hB9 hB10 hA1 hA2 hA3
              refine hK.out _ _ (KS.out _ hxx5s) (fun hHeld => ?_)
              clear hK K d0 d1 f0 f1
              have hall := And.intro hxx5s (And.intro hB9 (And.intro hB10 (And.intro hA1 (And.intro hA2 (And.intro hA3 hHeld)))))
              clear hxx5s hB9 hB10 hA1 hA2 hA3 hHeld
              revert hall
              generalize (x5.setCell ⟨g9, 0, none⟩ (.slice (some A1) n1 c1)).setCell ⟨g9, 1, none⟩ (.int .i64 a) = x5s
              rintro ⟨hxx5s, hB9, hB10, hA1, hA2, hA3, hHeld⟩
              try simp only [List.getElem_toArray, List.getElem_cons_zero, List.getElem_cons_succ, Act.put, List.setIfInBounds_toArray, List.set_cons_zero, List.set_cons_succ]
              obtain ⟨d0, d1⟩ := cells2 hB10
              obtain ⟨f0, f1⟩ := frozen2 hB10
              refine wpAnyH_ready (rs := [17]) (by kernel_rfl) (by simp) ?_
              refine (AllReadyH.cons rfl (fun K hK => ?_) AllReadyH.nil)
              go_simp
              have hxx5ss := st2_ext hxx5s hG10 (.slice (some A2) n2 c2) (.int .i64 b)
              have hB9 := st2_farE hB9 hD10 (.slice (some A2) n2 c2) (.int .i64 b)
              have hB10 := st2_blk hB10 (.slice (some A2) n2 c2) (.int .i64 b)
              have hA1 := amp_st2 hA1 hN1_10 (.slice (some A2) n2 c2) (.int .i64 b)
              have hA2 := amp_st2 hA2 hN2_10 (.slice (some A2) n2 c2) (.int .i64 b)
              have hA3 := amp_st2 hA3 hN3_10 (.slice (some A2) n2 c2) (.int .i64 b)
              unfold st2 at hxx5ss hB9 hB10 hA1 hA2 hA3
              refine hK.out _ _ (KS.out _ hxx5ss) (fun hHeld => ?_)
              clear hK K d0 d1 f0 f1
              have hall := And.intro hxx5ss (And.intro hB9 (And.intro hB10 (And.intro hA1 (And.intro hA2 (And.intro hA3 hHeld)))))
              clear hxx5ss hB9 hB10 hA1 hA2 hA3 hHeld
              revert hall
              generalize (x5s.setCell ⟨g10, 0, none⟩ (.slice (some A2) n2 c2)).setCell ⟨g10, 1, none⟩ (.int .i64 b) = x5ss
              rintro ⟨hxx5ss, hB9, hB10, hA1, hA2, hA3, hHeld⟩
              try simp only [List.getElem_toArray, List.getElem_cons_zero, List.getElem_cons_succ, Act.put, List.setIfInBounds_toArray, List.set_cons_zero, List.set_cons_succ]
              refine wpAnyH_take (i := 18) (v := (.slice (some A3) n3 c3)) rfl (by kernel_rfl) (by kernel_rfl) (by kernel_rfl) (fun _ _ _ h => h) (Or.inl ⟨by rfl, by (intro w hSw; obtain ⟨⟨hs1, hs2⟩, ⟨hs3, hs4⟩⟩ := hSw; go_simp)⟩) hHeld ?_
              simp only [List.getElem_toArray, List.getElem_cons_zero, List.getElem_cons_succ, Act.put, List.setIfInBounds_toArray, List.set_cons_zero, List.set_cons_succ]
              refine wpAnyH_done (by kernel_rfl) ?_ _
              have HF := Lib.hid (And.intro hB9 (And.intro hB10 (And.intro hA1 (And.intro hA2 (And.intro hA3 hxx5ss)))))
              clear hB9 hB10 hA1 hA2 hA3 hHeld hN1_9 hN2_9 hN3_9 hN1_10 hN2_10 hN3_10
              go_wp2_with fail
              go_meet
              exact ⟨g9, g10, A1, n1, c1, A2, n2, c2, A3, n3, c3, rfl, rfl, rfl, Lib.hid HF.out.1, Lib.hid HF.out.2.1, Lib.hid HF.out.2.2.1, Lib.hid HF.out.2.2.2.1, Lib.hid HF.out.2.2.2.2.1, Lib.hid HF.out.2.2.2.2.2⟩
      · go_simp
        have hEx2 : Ext x1 (x1.alloc (.cells #[.slice none 0 0, .int .i64 0] 34)) := Ext.alloc _ _
        have hB10 : Blk (x1.alloc (.cells #[.slice none 0 0, .int .i64 0] 34)) x1.heap.size 34 #[.slice none 0 0, .int .i64 0] := Blk.new _ _ _
        have hG10 : W1.heap.size ≤ x1.heap.size := hxx1.hsize
        have hD : g9 ≠ x1.heap.size := by have := hB9.lt; omega
        have hall := And.intro hEx2 (And.intro hB10 (And.intro hG10 (hD)))
        clear hEx2 hB10 hG10 hD
        revert hall
        generalize x1.alloc (.cells #[.slice none 0 0, .int .i64 0] 34) = x2
        generalize x1.heap.size = g10
        rintro ⟨hEx2, hB10, hG10, hD⟩
        have hxx2 := hxx1.trans hEx2
        have hB9 := hB9.ext hEx2
        refine hK.out _ _ (KS.out _ hxx2) (fun hHeld => ?_)
        clear hK K
        clear hEx2
        try simp only [List.getElem_toArray, List.getElem_cons_zero, List.getElem_cons_succ, Act.put, List.setIfInBounds_toArray, List.set_cons_zero, List.set_cons_succ]
        refine wpAnyH_ready (rs := [2]) (by kernel_rfl) (by simp) ?_
        refine (AllReadyH.cons rfl (fun K hK => ?_) AllReadyH.nil)
        · refine step_callf rfl 18 #[.slice A n c, .int .i64 77] rfl (by kernel_rfl) (fun v w' => Amp w' x2.heap.size v l 77 ∧ Ext x2 w') ((HP1.out hxx2).mono fun e w' ⟨v, h1, h2, h3⟩ => ⟨v, h1, h2, h3⟩) ?_
          rintro v1 x3 ⟨hA1, hEx3⟩
          have hxx3 := hxx2.trans hEx3
          have hN1_9 : ∀ q, v1.ownBlock = some q → q ≠ g9 := fun q hq => by have h1 := (hA1.blk q hq).1; have h2 := hB9.lt; omega
          have hB9 := hB9.ext hEx3
          have hN1_10 : ∀ q, v1.ownBlock = some q → q ≠ g10 := fun q hq => by have h1 := (hA1.blk q hq).1; have h2 := hB10.lt; omega
          have hB10 := hB10.ext hEx3
          have hA1 := hA1.lower hxx2.hsize
          obtain ⟨A1, n1, c1, rfl⟩ := amp_slice hA1
          refine hK.out _ _ (KS.out _ hxx3) (fun hHeld => ?_)
          clear hK K
          clear hEx3
          simp only [List.getElem_toArray, List.getElem_cons_zero, List.getElem_cons_succ, Act.put, List.setIfInBounds_toArray, List.set_cons_zero, List.set_cons_succ]
          refine wpAnyH_take (i := 5) (v := (.agg #[.slice (some A1) n1 c1, .int .i64 a])) rfl (by kernel_rfl) (by kernel_rfl) (by kernel_rfl) (fun _ _ _ h => h) (Or.inl ⟨by rfl, by (intro w hSw; obtain ⟨⟨hs1, hs2⟩, ⟨hs3, hs4⟩⟩ := hSw; go_simp)⟩) hHeld ?_
          simp only [List.getElem_toArray, List.getElem_cons_zero, List.getElem_cons_succ, Act.put, List.setIfInBounds_toArray, List.set_cons_zero, List.set_cons_succ]
          refine wpAnyH_ready (rs := [8]) (by kernel_rfl) (by simp) ?_
          refine (AllReadyH.cons rfl (fun K hK => ?_) AllReadyH.nil)
          · refine step_callf rfl 18 #[.slice B q d, .int .i64 77] rfl (by kernel_rfl) (fun v w' => Amp w' x3.heap.size v l2 77 ∧ Ext x3 w') ((HP2.out hxx3).mono fun e w' ⟨v, h1, h2, h3⟩ => ⟨v, h1, h2, h3⟩) ?_
            rintro v2 x4 ⟨hA2, hEx4⟩
            have hxx4 := hxx3.trans hEx4
            have hA1 := hA1.ext hEx4
            have hN2_9 : ∀ q, v2.ownBlock = some q → q ≠ g9 := fun q hq => by have h1 := (hA2.blk q hq).1; have h2 := hB9.lt; omega
            have hB9 := hB9.ext hEx4
            have hN2_10 : ∀ q, v2.ownBlock = some q → q ≠ g10 := fun q hq => by have h1 := (hA2.blk q hq).1; have h2 := hB10.lt; omega
            have hB10 := hB10.ext hEx4
            have hA2 := hA2.lower hxx3.hsize
            obtain ⟨A2, n2, c2, rfl⟩ := amp_slice hA2
            refine hK.out _ _ (KS.out _ hxx4) (fun hHeld => ?_)
            clear hK K
            clear hEx4
            simp only [List.getElem_toArray, List.getElem_cons_zero, List.getElem_cons_succ, Act.put, List.setIfInBounds_toArray, List.set_cons_zero, List.set_cons_succ]
            refine wpAnyH_take (i := 11) (v := (.agg #[.slice (some A2) n2 c2, .int .i64 b])) rfl (by kernel_rfl) (by kernel_rfl) (by kernel_rfl) (fun _ _ _ h => h) (Or.inl ⟨by rfl, by (intro w hSw; obtain ⟨⟨hs1, hs2⟩, ⟨hs3, hs4⟩⟩ := hSw; go_simp)⟩) hHeld ?_
            simp only [List.getElem_toArray, List.getElem_cons_zero, List.getElem_cons_succ, Act.put, List.setIfInBounds_toArray, List.set_cons_zero, List.set_cons_succ]
            refine wpAnyH_ready (rs := [13]) (by kernel_rfl) (by simp) ?_
            refine (AllReadyH.cons rfl (fun K hK => ?_) AllReadyH.nil)
            · refine step_callf rfl 18 #[.slice C m e, .int .i64 77] rfl (by kernel_rfl) (fun v w' => Amp w' x4.heap.size v sg 77 ∧ Ext x4 w') ((HP3.out hxx4).mono fun e w' ⟨v, h1, h2, h3⟩ => ⟨v, h1, h2, h3⟩) ?_
              rintro v3 x5 ⟨hA3, hEx5⟩
              have hxx5 := hxx4.trans hEx5
              have hA1 := hA1.ext hEx5
              have hA2 := hA2.ext hEx5
              have hN3_9 : ∀ q, v3.ownBlock = some q → q ≠ g9 := fun q hq => by have h1 := (hA3.blk q hq).1; have h2 := hB9.lt; omega
              have hB9 := hB9.ext hEx5
              have hN3_10 : ∀ q, v3.ownBlock = some q → q ≠ g10 := fun q hq => by have h1 := (hA3.blk q hq).1; have h2 := hB10.lt; omega
              have hB10 := hB10.ext hEx5
              have hA3 := hA3.lower hxx4.hsize
              obtain ⟨A3, n3, c3, rfl⟩ := amp_slice hA3
              refine hK.out _ _ (KS.out _ hxx5) (fun hHeld => ?_)
              clear hK K
              clear hEx5
              simp only [List.getElem_toArray, List.getElem_cons_zero, List.getElem_cons_succ, Act.put, List.setIfInBounds_toArray, List.set_cons_zero, List.set_cons_succ]
              have hD9 : g9 ≠ g10 := by first | exact hD | exact fun e => hD e.symm
              have hD10 : g10 ≠ g9 := fun e => hD9 e.symm
              obtain ⟨d0, d1⟩ := cells2 hB9
              obtain ⟨f0, f1⟩ := frozen2 hB9
              refine wpAnyH_ready (rs := [16]) (by kernel_rfl) (by simp) ?_
              refine (AllReadyH.cons rfl (fun K hK => ?_) AllReadyH.nil)
              go_simp
              have hxx5s := st2_ext hxx5 hG9 (.slice (some A1) n1 c1) (.int .i64 a)
              have hB10 := st2_farE hB10 hD9 (.slice (some A1) n1 c1) (.int .i64 a)
              have hB9 := st2_blk hB9 (.slice (some A1) n1 c1) (.int .i64 a)
              have hA1 := amp_st2 hA1 hN1_9 (.slice (some A1) n1 c1) (.int .i64 a)
              have hA2 := amp_st2 hA2 hN2_9 (.slice (some A1) n1 c1) (.int .i64 a)
              have hA3 := amp_st2 hA3 hN3_9 (.slice (some A1) n1 c1) (.int .i64 a)
              unfold st2 at hxx5s hB9 hB10 hA1 hA2 hA3
              refine hK.out _ _ (KS.out _ hxx5s) (fun hHeld => ?_)
              clear hK K d0 d1 f0 f1
              have hall := And.intro hxx5s (And.intro hB9 (And.intro hB10 (And.intro hA1 (And.intro hA2 (And.intro hA3 hHeld)))))
              clear hxx5s hB9 hB10 hA1 hA2 hA3 hHeld
              revert hall
              generalize (x5.setCell ⟨g9, 0, none⟩ (.slice (some A1) n1 c1)).setCell ⟨g9, 1, none⟩ (.int .i64 a) = x5s
              rintro ⟨hxx5s, hB9, hB10, hA1, hA2, hA3, hHeld⟩
              try simp only [List.getElem_toArray, List.getElem_cons_zero, List.getElem_cons_succ, Act.put, List.setIfInBounds_toArray, List.set_cons_zero, List.set_cons_succ]
              obtain ⟨d0, d1⟩ := cells2 hB10
              obtain ⟨f0, f1⟩ := frozen2 hB10
              refine wpAnyH_ready (rs := [17]) (by kernel_rfl) (by simp) ?_
              refine (AllReadyH.cons rfl (fun K hK => ?_) AllReadyH.nil)
              go_simp
              have hxx5ss := st2_ext hxx5s hG10 (.slice (some A2) n2 c2) (.int .i64 b)
              have hB9 := st2_farE hB9 hD10 (.slice (some A2) n2 c2) (.int .i64 b)
              have hB10 := st2_blk hB10 (.slice (some A2) n2 c2) (.int .i64 b)
              have hA1 := amp_st2 hA1 hN1_10 (.slice (some A2) n2 c2) (.int .i64 b)
              have hA2 := amp_st2 hA2 hN2_10 (.slice (some A2) n2 c2) (.int .i64 b)
              have hA3 := amp_st2 hA3 hN3_10 (.slice (some A2) n2 c2) (.int .i64 b)
              unfold st2 at hxx5ss hB9 hB10 hA1 hA2 hA3
              refine hK.out _ _ (KS.out _ hxx5ss) (fun hHeld => ?_)
              clear hK K d0 d1 f0 f1
              have hall := And.intro hxx5ss (And.intro hB9 (And.intro hB10 (And.intro hA1 (And.intro hA2 (And.intro hA3 hHeld)))))
              clear hxx5ss hB9 hB10 hA1 hA2 hA3 hHeld
              revert hall
              generalize (x5s.setCell ⟨g10, 0, none⟩ (.slice (some A2) n2 c2)).setCell ⟨g10, 1, none⟩ (.int .i64 b) = x5ss
              rintro ⟨hxx5ss, hB9, hB10, hA1, hA2, hA3, hHeld⟩
              try simp only [List.getElem_toArray, List.getElem_cons_zero, List.getElem_cons_succ, Act.put, List.setIfInBounds_toArray, List.set_cons_zero, List.set_cons_succ]
              refine wpAnyH_take (i := 18) (v := (.slice (some A3) n3 c3)) rfl (by kernel_rfl) (by kernel_rfl) (by kernel_rfl) (fun _ _ _ h => h) (Or.inl ⟨by rfl, by (intro w hSw; obtain ⟨⟨hs1, hs2⟩, ⟨hs3, hs4⟩⟩ := hSw; go_simp)⟩) hHeld ?_
              simp only [List.getElem_toArray, List.getElem_cons_zero, List.getElem_cons_succ, Act.put, List.setIfInBounds_toArray, List.set_cons_zero, List.set_cons_succ]
              refine wpAnyH_done (by kernel_rfl) ?_ _
              have HF := Lib.hid (And.intro hB9 (And.intro hB10 (And.intro hA1 (And.intro hA2 (And.intro hA3 hxx5ss)))))
              clear hB9 hB10 hA1 hA2 hA3 hHeld hN1_9 hN2_9 hN3_9 hN1_10 hN2_10 hN3_10
              go_wp2_with fail
              go_meet
              exact ⟨g9, g10, A1, n1, c1, A2, n2, c2, A3, n3, c3, rfl, rfl, rfl, Lib.hid HF.out.1, Lib.hid HF.out.2.1, Lib.hid HF.out.2.2.1, Lib.hid HF.out.2.2.2.1, Lib.hid HF.out.2.2.2.2.1, Lib.hid HF.out.2.2.2.2.2⟩
    · go_simp
      have hEx1 : Ext x0 (x0.alloc (.cells #[.slice none 0 0, .int .i64 0] 34)) := Ext.alloc _ _
      have hB10 : Blk (x0.alloc (.cells #[.slice none 0 0, .int .i64 0] 34)) x0.heap.size 34 #[.slice none 0 0, .int .i64 0] := Blk.new _ _ _
      have hG10 : W1.heap.size ≤ x0.heap.size := hxx0.hsize
      have hall := And.intro hEx1 (And.intro hB10 (hG10))
      clear hEx1 hB10 hG10
      revert hall
      generalize x0.alloc (.cells #[.slice none 0 0, .int .i64 0] 34) = x1
      generalize x0.heap.size = g10
      rintro ⟨hEx1, hB10, hG10⟩
      have hxx1 := hxx0.trans hEx1
      refine hK.out _ _ (KS.out _ hxx1) (fun hHeld => ?_)
      clear hK K
      clear hEx1
      try simp only [List.getElem_toArray, List.getElem_cons_zero, List.getElem_cons_succ, Act.put, List.setIfInBounds_toArray, List.set_cons_zero, List.set_cons_succ]
      refine wpAnyH_ready (rs := [2, 14]) (by kernel_rfl) (by simp) ?_
      refine (AllReadyH.cons rfl (fun K hK => ?_) (AllReadyH.cons rfl (fun K hK => ?_) AllReadyH.nil))
      · refine step_callf rfl 18 #[.slice A n c, .int .i64 77] rfl (by kernel_rfl) (fun v w' => Amp w' x1.heap.size v l 77 ∧ Ext x1 w') ((HP1.out hxx1).mono fun e w' ⟨v, h1, h2, h3⟩ => ⟨v, h1, h2, h3⟩) ?_
        rintro v1 x2 ⟨hA1, hEx2⟩
        have hxx2 := hxx1.trans hEx2
        have hN1_10 : ∀ q, v1.ownBlock = some q → q ≠ g10 := fun q hq => by have h1 := (hA1.blk q hq).1; have h2 := hB10.lt; omega
        have hB10 := hB10.ext hEx2
        have hA1 := hA1.lower hxx1.hsize
        obtain ⟨A1, n1, c1, rfl⟩ := amp_slice hA1
        refine hK.out _ _ (KS.out _ hxx2) (fun hHeld => ?_)
        clear hK K
        clear hEx2
        simp only [List.getElem_toArray, List.getElem_cons_zero, List.getElem_cons_succ, Act.put, List.setIfInBounds_toArray, List.set_cons_zero, List.set_cons_succ]
        refine wpAnyH_take (i := 5) (v := (.agg #[.slice (some A1) n1 c1, .int .i64 a])) rfl (by kernel_rfl) (by kernel_rfl) (by kernel_rfl) (fun _ _ _ h => h) (Or.inl ⟨by rfl, by (intro w hSw; obtain ⟨⟨hs1, hs2⟩, ⟨hs3, hs4⟩⟩ := hSw; go_simp)⟩) hHeld ?_
        simp only [List.getElem_toArray, List.getElem_cons_zero, List.getElem_cons_succ, Act.put, List.setIfInBounds_toArray, List.set_cons_zero, List.set_cons_succ]
        refine wpAnyH_ready (rs := [8, 14]) (by kernel_rfl) (by simp) ?_
        refine (AllReadyH.cons rfl (fun K hK => ?_) (AllReadyH.cons rfl (fun K hK => ?_) AllReadyH.nil))
        · refine step_callf rfl 18 #[.slice B q d, .int .i64 77] rfl (by kernel_rfl) (fun v w' => Amp w' x2.heap.size v l2 77 ∧ Ext x2 w') ((HP2.out hxx2).mono fun e w' ⟨v, h1, h2, h3⟩ => ⟨v, h1, h2, h3⟩) ?_
          rintro v2 x3 ⟨hA2, hEx3⟩
          have hxx3 := hxx2.trans hEx3
          have hA1 := hA1.ext hEx3
          have hN2_10 : ∀ q, v2.ownBlock = some q → q ≠ g10 := fun q hq => by have h1 := (hA2.blk q hq).1; have h2 := hB10.lt; omega
          have hB10 := hB10.ext hEx3
          have hA2 := hA2.lower hxx2.hsize
          obtain ⟨A2, n2, c2, rfl⟩ := amp_slice hA2
          refine hK.out _ _ (KS.out _ hxx3) (fun hHeld => ?_)
          clear hK K
          clear hEx3
          simp only [List.getElem_toArray, List.getElem_cons_zero, List.getElem_cons_succ, Act.put, List.setIfInBounds_toArray, List.set_cons_zero, List.set_cons_succ]
          refine wpAnyH_take (i := 11) (v := (.agg #[.slice (some A2) n2 c2, .int .i64 b])) rfl (by kernel_rfl) (by kernel_rfl) (by kernel_rfl) (fun _ _ _ h => h) (Or.inl ⟨by rfl, by (intro w hSw; obtain ⟨⟨hs1, hs2⟩, ⟨hs3, hs4⟩⟩ := hSw; go_simp)⟩) hHeld ?_
          simp only [List.getElem_toArray, List.getElem_cons_zero, List.getElem_cons_succ, Act.put, List.setIfInBounds_toArray, List.set_cons_zero, List.set_cons_succ]
          refine wpAnyH_ready (rs := [13, 14]) (by kernel_rfl) (by simp) ?_
          refine (AllReadyH.cons rfl (fun K hK => ?_) (AllReadyH.cons rfl (fun K hK => ?_) AllReadyH.nil))
          · refine step_callf rfl 18 #[.slice C m e, .int .i64 77] rfl (by kernel_rfl) (fun v w' => Amp w' x3.heap.size v sg 77 ∧ Ext x3 w') ((HP3.out hxx3).mono fun e w' ⟨v, h1, h2, h3⟩ => ⟨v, h1, h2, h3⟩) ?_
            rintro v3 x4 ⟨hA3, hEx4⟩
            have hxx4 := hxx3.trans hEx4
            have hA1 := hA1.ext hEx4
            have hA2 := hA2.ext hEx4
            have hN3_10 : ∀ q, v3.ownBlock = some q → q ≠ g10 := fun q hq => by have h1 := (hA3.blk q hq).1; have h2 := hB10.lt; omega
            have hB10 := hB10.ext hEx4
            have hA3 := hA3.lower hxx3.hsize
            obtain ⟨A3, n3, c3, rfl⟩ := amp_slice hA3
            refine hK.out _ _ (KS.out _ hxx4) (fun hHeld => ?_)
            clear hK K
            clear hEx4
            simp only [List.getElem_toArray, List.getElem_cons_zero, List.getElem_cons_succ, Act.put, List.setIfInBounds_toArray, List.set_cons_zero, List.set_cons_succ]
            refine wpAnyH_ready (rs := [14]) (by kernel_rfl) (by simp) ?_
            refine (AllReadyH.cons rfl (fun K hK => ?_) AllReadyH.nil)
            · go_simp
              have hEx5 : Ext x4 (x4.alloc (.cells #[.slice none 0 0, .int .i64 0] 34)) := Ext.alloc _ _
              have hB9 : Blk (x4.alloc (.cells #[.slice none 0 0, .int .i64 0] 34)) x4.heap.size 34 #[.slice none 0 0, .int .i64 0] := Blk.new _ _ _
              have hG9 : W1.heap.size ≤ x4.heap.size := hxx4.hsize
              have hN1_9 : ∀ q, (Value.slice (some A1) n1 c1).ownBlock = some q → q ≠ x4.heap.size := fun q hq => by have h1 := (hA1.blk q hq).2; omega
              have hN2_9 : ∀ q, (Value.slice (some A2) n2 c2).ownBlock = some q → q ≠ x4.heap.size := fun q hq => by have h1 := (hA2.blk q hq).2; omega
              have hN3_9 : ∀ q, (Value.slice (some A3) n3 c3).ownBlock = some q → q ≠ x4.heap.size := fun q hq => by have h1 := (hA3.blk q hq).2; omega
              have hD : g10 ≠ x4.heap.size := by have := hB10.lt; omega
              have hall := And.intro hEx5 (And.intro hB9 (And.intro hG9 (And.intro hN1_9 (And.intro hN2_9 (And.intro hN3_9 (hD))))))
              clear hEx5 hB9 hG9 hN1_9 hN2_9 hN3_9 hD
              revert hall
              generalize x4.alloc (.cells #[.slice none 0 0, .int .i64 0] 34) = x5
              generalize x4.heap.size = g9
              rintro ⟨hEx5, hB9, hG9, hN1_9, hN2_9, hN3_9, hD⟩
              have hxx5 := hxx4.trans hEx5
              have hA1 := hA1.ext hEx5
              have hA2 := hA2.ext hEx5
              have hA3 := hA3.ext hEx5
              have hB10 := hB10.ext hEx5
              refine hK.out _ _ (KS.out _ hxx5) (fun hHeld => ?_)
              clear hK K
              clear hEx5
              try simp only [List.getElem_toArray, List.getElem_cons_zero, List.getElem_cons_succ, Act.put, List.setIfInBounds_toArray, List.set_cons_zero, List.set_cons_succ]
              have hD9 : g9 ≠ g10 := by first | exact hD | exact fun e => hD e.symm
              have hD10 : g10 ≠ g9 := fun e => hD9 e.symm
              obtain ⟨d0, d1⟩ := cells2 hB9
              obtain ⟨f0, f1⟩ := frozen2 hB9
              refine wpAnyH_ready (rs := [16]) (by kernel_rfl) (by simp) ?_
              refine (AllReadyH.cons rfl (fun K hK => ?_) AllReadyH.nil)
              go_simp
              have hxx5s := st2_ext hxx5 hG9 (.slice (some A1) n1 c1) (.int .i64 a)
              have hB10 := st2_farE hB10 hD9 (.slice (some A1) n1 c1) (.int .i64 a)
              have hB9 := st2_blk hB9 (.slice (some A1) n1 c1) (.int .i64 a)
              have hA1 := amp_st2 hA1 hN1_9 (.slice (some A1) n1 c1) (.int .i64 a)
              have hA2 := amp_st2 hA2 hN2_9 (.slice (some A1) n1 c1) (.int .i64 a)
              have hA3 := amp_st2 hA3 hN3_9 (.slice (some A1) n1 c1) (.int .i64 a)
              unfold st2 at hxx5s hB9 hB10 hA1 hA2 hA3
              refine hK.out _ _ (KS.out _ hxx5s) (fun hHeld => ?_)
              clear hK K d0 d1 f0 f1
              have hall := And.intro hxx5s (And.intro hB9 (And.intro hB10 (And.intro hA1 (And.intro hA2 (And.intro hA3 hHeld)))))
              clear hxx5s hB9 hB10 hA1 hA2 hA3 hHeld
              revert hall
              generalize (x5.setCell ⟨g9, 0, none⟩ (.slice (some A1) n1 c1)).setCell ⟨g9, 1, none⟩ (.int .i64 a) = x5s
              rintro ⟨hxx5s, hB9, hB10, hA1, hA2, hA3, hHeld⟩
              try simp only [List.getElem_toArray, List.getElem_cons_zero, List.getElem_cons_succ, Act.put, List.setIfInBounds_toArray, List.set_cons_zero, List.set_cons_succ]
              obtain ⟨d0, d1⟩ := cells2 hB10
              obtain ⟨f0, f1⟩ := frozen2 hB10
              refine wpAnyH_ready (rs := [17]) (by kernel_rfl) (by simp) ?_
              refine (AllReadyH.cons rfl (fun K hK => ?_) AllReadyH.nil)
              go_simp
              have hxx5ss := st2_ext hxx5s hG10 (.slice (some A2) n2 c2) (.int .i64 b)
              have hB9 := st2_farE hB9 hD10 (.slice (some A2) n2 c2) (.int .i64 b)
              have hB10 := st2_blk hB10 (.slice (some A2) n2 c2) (.int .i64 b)
              have hA1 := amp_st2 hA1 hN1_10 (.slice (some A2) n2 c2) (.int .i64 b)
              have hA2 := amp_st2 hA2 hN2_10 (.slice (some A2) n2 c2) (.int .i64 b)
              have hA3 := amp_st2 hA3 hN3_10 (.slice (some A2) n2 c2) (.int .i64 b)
              unfold st2 at hxx5ss hB9 hB10 hA1 hA2 hA3
              refine hK.out _ _ (KS.out _ hxx5ss) (fun hHeld => ?_)
              clear hK K d0 d1 f0 f1
              have hall := And.intro hxx5ss (And.intro hB9 (And.intro hB10 (And.intro hA1 (And.intro hA2 (And.intro hA3 hHeld)))))
              clear hxx5ss hB9 hB10 hA1 hA2 hA3 hHeld
              revert hall
              generalize (x5s.setCell ⟨g10, 0, none⟩ (.slice (some A2) n2 c2)).setCell ⟨g10, 1, none⟩ (.int .i64 b) = x5ss
              rintro ⟨hxx5ss, hB9, hB10, hA1, hA2, hA3, hHeld⟩
              try simp only [List.getElem_toArray, List.getElem_cons_zero, List.getElem_cons_succ, Act.put, List.setIfInBounds_toArray, List.set_cons_zero, List.set_cons_succ]
              refine wpAnyH_take (i := 18) (v := (.slice (some A3) n3 c3)) rfl (by kernel_rfl) (by kernel_rfl) (by kernel_rfl) (fun _ _ _ h => h) (Or.inl ⟨by rfl, by (intro w hSw; obtain ⟨⟨hs1, hs2⟩, ⟨hs3, hs4⟩⟩ := hSw; go_simp)⟩) hHeld ?_
              simp only [List.getElem_toArray, List.getElem_cons_zero, List.getElem_cons_succ, Act.put, List.setIfInBounds_toArray, List.set_cons_zero, List.set_cons_succ]
              refine wpAnyH_done (by kernel_rfl) ?_ _
              have HF := Lib.hid (And.intro hB9 (And.intro hB10 (And.intro hA1 (And.intro hA2 (And.intro hA3 hxx5ss)))))
              clear hB9 hB10 hA1 hA2 hA3 hHeld hN1_9 hN2_9 hN3_9 hN1_10 hN2_10 hN3_10
              go_wp2_with fail
              go_meet
              exact ⟨g9, g10, A1, n1, c1, A2, n2, c2, A3, n3, c3, rfl, rfl, rfl, Lib.hid HF.out.1, Lib.hid HF.out.2.1, Lib.hid HF.out.2.2.1, Lib.hid HF.out.2.2.2.1, Lib.hid HF.out.2.2.2.2.1, Lib.hid HF.out.2.2.2.2.2⟩
          · go_simp
            have hEx4 : Ext x3 (x3.alloc (.cells #[.slice none 0 0, .int .i64 0] 34)) := Ext.alloc _ _
            have hB9 : Blk (x3.alloc (.cells #[.slice none 0 0, .int .i64 0] 34)) x3.heap.size 34 #[.slice none 0 0, .int .i64 0] := Blk.new _ _ _
            have hG9 : W1.heap.size ≤ x3.heap.size := hxx3.hsize
            have hN1_9 : ∀ q, (Value.slice (some A1) n1 c1).ownBlock = some q → q ≠ x3.heap.size := fun q hq => by have h1 := (hA1.blk q hq).2; omega
            have hN2_9 : ∀ q, (Value.slice (some A2) n2 c2).ownBlock = some q → q ≠ x3.heap.size := fun q hq => by have h1 := (hA2.blk q hq).2; omega
            have hD : g10 ≠ x3.heap.size := by have := hB10.lt; omega
            have hall := And.intro hEx4 (And.intro hB9 (And.intro hG9 (And.intro hN1_9 (And.intro hN2_9 (hD)))))
            clear hEx4 hB9 hG9 hN1_9 hN2_9 hD
            revert hall
            generalize x3.alloc (.cells #[.slice none 0 0, .int .i64 0] 34) = x4
            generalize x3.heap.size = g9
            rintro ⟨hEx4, hB9, hG9, hN1_9, hN2_9, hD⟩
            have hxx4 := hxx3.trans hEx4
            have hA1 := hA1.ext hEx4
            have hA2 := hA2.ext hEx4
            have hB10 := hB10.ext hEx4
            refine hK.out _ _ (KS.out _ hxx4) (fun hHeld => ?_)
            clear hK K
            clear hEx4
            try simp only [List.getElem_toArray, List.getElem_cons_zero, List.getElem_cons_succ, Act.put, List.setIfInBounds_toArray, List.set_cons_zero, List.set_cons_succ]
            refine wpAnyH_ready (rs := [13]) (by kernel_rfl) (by simp) ?_
            refine (AllReadyH.cons rfl (fun K hK => ?_) AllReadyH.nil)
            · refine step_callf rfl 18 #[.slice C m e, .int .i64 77] rfl (by kernel_rfl) (fun v w' => Amp w' x4.heap.size v sg 77 ∧ Ext x4 w') ((HP3.out hxx4).mono fun e w' ⟨v, h1, h2, h3⟩ => ⟨v, h1, h2, h3⟩) ?_
              rintro v3 x5 ⟨hA3, hEx5⟩
              have hxx5 := hxx4.trans hEx5
              have hA1 := hA1.ext hEx5
              have hA2 := hA2.ext hEx5
              have hN3_9 : ∀ q, v3.ownBlock = some q → q ≠ g9 := fun q hq => by have h1 := (hA3.blk q hq).1; have h2 := hB9.lt; omega
              have hB9 := hB9.ext hEx5
              have hN3_10 : ∀ q, v3.ownBlock = some q → q ≠ g10 := fun q hq => by have h1 := (hA3.blk q hq).1; have h2 := hB10.lt; omega
              have hB10 := hB10.ext hEx5
              have hA3 := hA3.lower hxx4.hsize
              obtain ⟨A3, n3, c3, rfl⟩ := amp_slice hA3
              refine hK.out _ _ (KS.out _ hxx5) (fun hHeld => ?_)
              clear hK K
              clear hEx5
              simp only [List.getElem_toArray, List.getElem_cons_zero, List.getElem_cons_succ, Act.put, List.setIfInBounds_toArray, List.set_cons_zero, List.set_cons_succ]
              have hD9 : g9 ≠ g10 := by first | exact hD | exact fun e => hD e.symm
              have hD10 : g10 ≠ g9 := fun e => hD9 e.symm
              obtain ⟨d0, d1⟩ := cells2 hB9
              obtain ⟨f0, f1⟩ := frozen2 hB9
              refine wpAnyH_ready (rs := [16]) (by kernel_rfl) (by simp) ?_
              refine (AllReadyH.cons rfl (fun K hK => ?_) AllReadyH.nil)
              go_simp
              have hxx5s := st2_ext hxx5 hG9 (.slice (some A1) n1 c1) (.int .i64 a)
              have hB10 := st2_farE hB10 hD9 (.slice (some A1) n1 c1) (.int .i64 a)
              have hB9 := st2_blk hB9 (.slice (some A1) n1 c1) (.int .i64 a)
              have hA1 := amp_st2 hA1 hN1_9 (.slice (some A1) n1 c1) (.int .i64 a)
              have hA2 := amp_st2 hA2 hN2_9 (.slice (some A1) n1 c1) (.int .i64 a)
              have hA3 := amp_st2 hA3 hN3_9 (.slice (some A1) n1 c1) (.int .i64 a)
              unfold st2 at hxx5s hB9 hB10 hA1 hA2 hA3
              refine hK.out _ _ (KS.out _ hxx5s) (fun hHeld => ?_)
              clear hK K d0 d1 f0 f1
              have hall := And.intro hxx5s (And.intro hB9 (And.intro hB10 (And.intro hA1 (And.intro hA2 (And.intro hA3 hHeld)))))
              clear hxx5s hB9 hB10 hA1 hA2 hA3 hHeld
              revert hall
              generalize (x5.setCell ⟨g9, 0, none⟩ (.slice (some A1) n1 c1)).setCell ⟨g9, 1, none⟩ (.int .i64 a) = x5s
              rintro ⟨hxx5s, hB9, hB10, hA1, hA2, hA3, hHeld⟩
              try simp only [List.getElem_toArray, List.getElem_cons_zero, List.getElem_cons_succ, Act.put, List.setIfInBounds_toArray, List.set_cons_zero, List.set_cons_succ]
              obtain ⟨d0, d1⟩ := cells2 hB10
              obtain ⟨f0, f1⟩ := frozen2 hB10
              refine wpAnyH_ready (rs := [17]) (by kernel_rfl) (by simp) ?_
              refine (AllReadyH.cons rfl (fun K hK => ?_) AllReadyH.nil)
              go_simp
              have hxx5ss := st2_ext hxx5s hG10 (.slice (some A2) n2 c2) (.int .i64 b)
              have hB9 := st2_farE hB9 hD10 (.slice (some A2) n2 c2) (.int .i64 b)
              have hB10 := st2_blk hB10 (.slice (some A2) n2 c2) (.int .i64 b)
              have hA1 := amp_st2 hA1 hN1_10 (.slice (some A2) n2 c2) (.int .i64 b)
              have hA2 := amp_st2 hA2 hN2_10 (.slice (some A2) n2 c2) (.int .i64 b)
              have hA3 := amp_st2 hA3 hN3_10 (.slice (some A2) n2 c2) (.int .i64 b)
              unfold st2 at hxx5ss hB9 hB10 hA1 hA2 hA3
              refine hK.out _ _ (KS.out _ hxx5ss) (fun hHeld => ?_)
              clear hK K d0 d1 f0 f1
              have hall := And.intro hxx5ss (And.intro hB9 (And.intro hB10 (And.intro hA1 (And.intro hA2 (And.intro hA3 hHeld)))))
              clear hxx5ss hB9 hB10 hA1 hA2 hA3 hHeld
              revert hall
              generalize (x5s.setCell ⟨g10, 0, none⟩ (.slice (some A2) n2 c2)).setCell ⟨g10, 1, none⟩ (.int .i64 b) = x5ss
              rintro ⟨hxx5ss, hB9, hB10, hA1, hA2, hA3, hHeld⟩
              try simp only [List.getElem_toArray, List.getElem_cons_zero, List.getElem_cons_succ, Act.put, List.setIfInBounds_toArray, List.set_cons_zero, List.set_cons_succ]
              refine wpAnyH_take (i := 18) (v := (.slice (some A3) n3 c3)) rfl (by kernel_rfl) (by kernel_rfl) (by kernel_rfl) (fun _ _ _ h => h) (Or.inl ⟨by rfl, by (intro w hSw; obtain ⟨⟨hs1, hs2⟩, ⟨hs3, hs4⟩⟩ := hSw; go_simp)⟩) hHeld ?_
              simp only [List.getElem_toArray, List.getElem_cons_zero, List.getElem_cons_succ, Act.put, List.setIfInBounds_toArray, List.set_cons_zero, List.set_cons_succ]
              refine wpAnyH_done (by kernel_rfl) ?_ _
              have HF := Lib.hid (And.intro hB9 (And.intro hB10 (And.intro hA1 (And.intro hA2 (And.intro hA3 hxx5ss)))))
              clear hB9 hB10 hA1 hA2 hA3 hHeld hN1_9 hN2_9 hN3_9 hN1_10 hN2_10 hN3_10
              go_wp2_with fail
              go_meet
              exact ⟨g9, g10, A1, n1, c1, A2, n2, c2, A3, n3, c3, rfl, rfl, rfl, Lib.hid HF.out.1, Lib.hid HF.out.2.1, Lib.hid HF.out.2.2.1, Lib.hid HF.out.2.2.2.1, Lib.hid HF.out.2.2.2.2.1, Lib.hid HF.out.2.2.2.2.2⟩
        · go_simp
          have hEx3 : Ext x2 (x2.alloc (.cells #[.slice none 0 0, .int .i64 0] 34)) := Ext.alloc _ _
          have hB9 : Blk (x2.alloc (.cells #[.slice none 0 0, .int .i64 0] 34)) x2.heap.size 34 #[.slice none 0 0, .int .i64 0] := Blk.new _ _ _
          have hG9 : W1.heap.size ≤ x2.heap.size := hxx2.hsize
          have hN1_9 : ∀ q, (Value.slice (some A1) n1 c1).ownBlock = some q → q ≠ x2.heap.size := fun q hq => by have h1 := (hA1.blk q hq).2; omega
          have hD : g10 ≠ x2.heap.size := by have := hB10.lt; omega
          have hall := And.intro hEx3 (And.intro hB9 (And.intro hG9 (And.intro hN1_9 (hD))))
          clear hEx3 hB9 hG9 hN1_9 hD
          revert hall
          generalize x2.alloc (.cells #[.slice none 0 0, .int .i64 0] 34) = x3
          generalize x2.heap.size = g9
          rintro ⟨hEx3, hB9, hG9, hN1_9, hD⟩
          have hxx3 := hxx2.trans hEx3
          have hA1 := hA1.ext hEx3
          have hB10 := hB10.ext hEx3
          refine hK.out _ _ (KS.out _ hxx3) (fun hHeld => ?_)
          clear hK K
          clear hEx3
          try simp only [List.getElem_toArray, List.getElem_cons_zero, List.getElem_cons_succ, Act.put, List.setIfInBounds_toArray, List.set_cons_zero, List.set_cons_succ]
          refine wpAnyH_ready (rs := [8]) (by kernel_rfl) (by simp) ?_
          refine (AllReadyH.cons rfl (fun K hK => ?_) AllReadyH.nil)
          · refine step_callf rfl 18 #[.slice B q d, .int .i64 77] rfl (by kernel_rfl) (fun v w' => Amp w' x3.heap.size v l2 77 ∧ Ext x3 w') ((HP2.out hxx3).mono fun e w' ⟨v, h1, h2, h3⟩ => ⟨v, h1, h2, h3⟩) ?_
            rintro v2 x4 ⟨hA2, hEx4⟩
            have hxx4 := hxx3.trans hEx4
            have hA1 := hA1.ext hEx4
            have hN2_9 : ∀ q, v2.ownBlock = some q → q ≠ g9 := fun q hq => by have h1 := (hA2.blk q hq).1; have h2 := hB9.lt; omega
            have hB9 := hB9.ext hEx4
            have hN2_10 : ∀ q, v2.ownBlock = some q → q ≠ g10 := fun q hq => by have h1 := (hA2.blk q hq).1; have h2 := hB10.lt; omega
            have hB10 := hB10.ext hEx4
            have hA2 := hA2.lower hxx3.hsize
            obtain ⟨A2, n2, c2, rfl⟩ := amp_slice hA2
            refine hK.out _ _ (KS.out _ hxx4) (fun hHeld => ?_)
            clear hK K
            clear hEx4
            simp only [List.getElem_toArray, List.getElem_cons_zero, List.getElem_cons_succ, Act.put, List.setIfInBounds_toArray, List.set_cons_zero, List.set_cons_succ]
            refine wpAnyH_take (i := 11) (v := (.agg #[.slice (some A2) n2 c2, .int .i64 b])) rfl (by kernel_rfl) (by kernel_rfl) (by kernel_rfl) (fun _ _ _ h => h) (Or.inl ⟨by rfl, by (intro w hSw; obtain ⟨⟨hs1, hs2⟩, ⟨hs3, hs4⟩⟩ := hSw; go_simp)⟩) hHeld ?_
            simp only [List.getElem_toArray, List.getElem_cons_zero, List.getElem_cons_succ, Act.put, List.setIfInBounds_toArray, List.set_cons_zero, List.set_cons_succ]
            refine wpAnyH_ready (rs := [13]) (by kernel_rfl) (by simp) ?_
            refine (AllReadyH.cons rfl (fun K hK => ?_) AllReadyH.nil)
            · refine step_callf rfl 18 #[.slice C m e, .int .i64 77] rfl (by kernel_rfl) (fun v w' => Amp w' x4.heap.size v sg 77 ∧ Ext x4 w') ((HP3.out hxx4).mono fun e w' ⟨v, h1, h2, h3⟩ => ⟨v, h1, h2, h3⟩) ?_
              rintro v3 x5 ⟨hA3, hEx5⟩
              have hxx5 := hxx4.trans hEx5
              have hA1 := hA1.ext hEx5
              have hA2 := hA2.ext hEx5
              have hN3_9 : ∀ q, v3.ownBlock = some q → q ≠ g9 := fun q hq => by have h1 := (hA3.blk q hq).1; have h2 := hB9.lt; omega
              have hB9 := hB9.ext hEx5
              have hN3_10 : ∀ q, v3.ownBlock = some q → q ≠ g10 := fun q hq => by have h1 := (hA3.blk q hq).1; have h2 := hB10.lt; omega
              have hB10 := hB10.ext hEx5
              have hA3 := hA3.lower hxx4.hsize
              obtain ⟨A3, n3, c3, rfl⟩ := amp_slice hA3
              refine hK.out _ _ (KS.out _ hxx5) (fun hHeld => ?_)
              clear hK K
              clear hEx5
              simp only [List.getElem_toArray, List.getElem_cons_zero, List.getElem_cons_succ, Act.put, List.setIfInBounds_toArray, List.set_cons_zero, List.set_cons_succ]
              have hD9 : g9 ≠ g10 := by first | exact hD | exact fun e => hD e.symm
              have hD10 : g10 ≠ g9 := fun e => hD9 e.symm
              obtain ⟨d0, d1⟩ := cells2 hB9
              obtain ⟨f0, f1⟩ := frozen2 hB9
              refine wpAnyH_ready (rs := [16]) (by kernel_rfl) (by simp) ?_
              refine (AllReadyH.cons rfl (fun K hK => ?_) AllReadyH.nil)
              go_simp
              have hxx5s := st2_ext hxx5 hG9 (.slice (some A1) n1 c1) (.int .i64 a)
              have hB10 := st2_farE hB10 hD9 (.slice (some A1) n1 c1) (.int .i64 a)
              have hB9 := st2_blk hB9 (.slice (some A1) n1 c1) (.int .i64 a)
              have hA1 := amp_st2 hA1 hN1_9 (.slice (some A1) n1 c1) (.int .i64 a)
              have hA2 := amp_st2 hA2 hN2_9 (.slice (some A1) n1 c1) (.int .i64 a)
              have hA3 := amp_st2 hA3 hN3_9 (.slice (some A1) n1 c1) (.int .i64 a)
              unfold st2 at hxx5s hB9 hB10 hA1 hA2 hA3
              refine hK.out _ _ (KS.out _ hxx5s) (fun hHeld => ?_)
              clear hK K d0 d1 f0 f1
              have hall := And.intro hxx5s (And.intro hB9 (And.intro hB10 (And.intro hA1 (And.intro hA2 (And.intro hA3 hHeld)))))
              clear hxx5s hB9 hB10 hA1 hA2 hA3 hHeld
              revert hall
              generalize (x5.setCell ⟨g9, 0, none⟩ (.slice (some A1) n1 c1)).setCell ⟨g9, 1, none⟩ (.int .i64 a) = x5s
              rintro ⟨hxx5s, hB9, hB10, hA1, hA2, hA3, hHeld⟩
              try simp only [List.getElem_toArray, List.getElem_cons_zero, List.getElem_cons_succ, Act.put, List.setIfInBounds_toArray, List.set_cons_zero, List.set_cons_succ]
              obtain ⟨d0, d1⟩ := cells2 hB10
              obtain ⟨f0, f1⟩ := frozen2 hB10
              refine wpAnyH_ready (rs := [17]) (by kernel_rfl) (by simp) ?_
              refine (AllReadyH.cons rfl (fun K hK => ?_) AllReadyH.nil)
              go_simp
              have hxx5ss := st2_ext hxx5s hG10 (.slice (some A2) n2 c2) (.int .i64 b)
              have hB9 := st2_farE hB9 hD10 (.slice (some A2) n2 c2) (.int .i64 b)
              have hB10 := st2_blk hB10 (.slice (some A2) n2 c2) (.int .i64 b)
              have hA1 := amp_st2 hA1 hN1_10 (.slice (some A2) n2 c2) (.int .i64 b)
              have hA2 := amp_st2 hA2 hN2_10 (.slice (some A2) n2 c2) (.int .i64 b)
              have hA3 := amp_st2 hA3 hN3_10 (.slice (some A2) n2 c2) (.int .i64 b)
              unfold st2 at hxx5ss hB9 hB10 hA1 hA2 hA3
              refine hK.out _ _ (KS.out _ hxx5ss) (fun hHeld => ?_)
              clear hK K d0 d1 f0 f1
              have hall := And.intro hxx5ss (And.intro hB9 (And.intro hB10 (And.intro hA1 (And.intro hA2 (And.intro hA3 hHeld)))))
              clear hxx5ss hB9 hB10 hA1 hA2 hA3 hHeld
              revert hall
              generalize (x5s.setCell ⟨g10, 0, none⟩ (.slice (some A2) n2 c2)).setCell ⟨g10, 1, none⟩ (.int .i64 b) = x5ss
              rintro ⟨hxx5ss, hB9, hB10, hA1, hA2, hA3, hHeld⟩
              try simp only [List.getElem_toArray, List.getElem_cons_zero, List.getElem_cons_succ, Act.put, List.setIfInBounds_toArray, List.set_cons_zero, List.set_cons_succ]
              refine wpAnyH_take (i := 18) (v := (.slice (some A3) n3 c3)) rfl (by kernel_rfl) (by kernel_rfl) (by kernel_rfl) (fun _ _ _ h => h) (Or.inl ⟨by rfl, by (intro w hSw; obtain ⟨⟨hs1, hs2⟩, ⟨hs3, hs4⟩⟩ := hSw; go_simp)⟩) hHeld ?_
              simp only [List.getElem_toArray, List.getElem_cons_zero, List.getElem_cons_succ, Act.put, List.setIfInBounds_toArray, List.set_cons_zero, List.set_cons_succ]
              refine wpAnyH_done (by kernel_rfl) ?_ _
              have HF := Lib.hid (And.intro hB9 (And.intro hB10 (And.intro hA1 (And.intro hA2 (And.intro hA3 hxx5ss)))))
              clear hB9 hB10 hA1 hA2 hA3 hHeld hN1_9 hN2_9 hN3_9 hN1_10 hN2_10 hN3_10
              go_wp2_with fail
              go_meet
              exact ⟨g9, g10, A1, n1, c1, A2, n2, c2, A3, n3, c3, rfl, rfl, rfl, Lib.hid HF.out.1, Lib.hid HF.out.2.1, Lib.hid HF.out.2.2.1, Lib.hid HF.out.2.2.2.1, Lib.hid HF.out.2.2.2.2.1, Lib.hid HF.out.2.2.2.2.2⟩
      · go_simp
        have hEx2 : Ext x1 (x1.alloc (.cells #[.slice none 0 0, .int .i64 0] 34)) := Ext.alloc _ _
        have hB9 : Blk (x1.alloc (.cells #[.slice none 0 0, .int .i64 0] 34)) x1.heap.size 34 #[.slice none 0 0, .int .i64 0] := Blk.new _ _ _
        have hG9 : W1.heap.size ≤ x1.heap.size := hxx1.hsize
        have hD : g10 ≠ x1.heap.size := by have := hB10.lt; omega
        have hall := And.intro hEx2 (And.intro hB9 (And.intro hG9 (hD)))
        clear hEx2 hB9 hG9 hD
        revert hall
        generalize x1.alloc (.cells #[.slice none 0 0, .int .i64 0] 34) = x2
        generalize x1.heap.size = g9
        rintro ⟨hEx2, hB9, hG9, hD⟩
        have hxx2 := hxx1.trans hEx2
        have hB10 := hB10.ext hEx2
        refine hK.out _ _ (KS.out _ hxx2) (fun hHeld => ?_)
        clear hK K
        clear hEx2
        try simp only [List.getElem_toArray, List.getElem_cons_zero, List.getElem_cons_succ, Act.put, List.setIfInBounds_toArray, List.set_cons_zero, List.set_cons_succ]
        refine wpAnyH_ready (rs := [2]) (by kernel_rfl) (by simp) ?_
        refine (AllReadyH.cons rfl (fun K hK => ?_) AllReadyH.nil)
        · refine step_callf rfl 18 #[.slice A n c, .int .i64 77] rfl (by kernel_rfl) (fun v w' => Amp w' x2.heap.size v l 77 ∧ Ext x2 w') ((HP1.out hxx2).mono fun e w' ⟨v, h1, h2, h3⟩ => ⟨v, h1, h2, h3⟩) ?_
          rintro v1 x3 ⟨hA1, hEx3⟩
          have hxx3 := hxx2.trans hEx3
          have hN1_9 : ∀ q, v1.ownBlock = some q → q ≠ g9 := fun q hq => by have h1 := (hA1.blk q hq).1; have h2 := hB9.lt; omega
          have hB9 := hB9.ext hEx3
          have hN1_10 : ∀ q, v1.ownBlock = some q → q ≠ g10 := fun q hq => by have h1 := (hA1.blk q hq).1; have h2 := hB10.lt; omega
          have hB10 := hB10.ext hEx3
          have hA1 := hA1.lower hxx2.hsize
          obtain ⟨A1, n1, c1, rfl⟩ := amp_slice hA1
          refine hK.out _ _ (KS.out _ hxx3) (fun hHeld => ?_)
          clear hK K
          clear hEx3
          simp only [List.getElem_toArray, List.getElem_cons_zero, List.getElem_cons_succ, Act.put, List.setIfInBounds_toArray, List.set_cons_zero, List.set_cons_succ]
          refine wpAnyH_take (i := 5) (v := (.agg #[.slice (some A1) n1 c1, .int .i64 a])) rfl (by kernel_rfl) (by kernel_rfl) (by kernel_rfl) (fun _ _ _ h => h) (Or.inl ⟨by rfl, by (intro w hSw; obtain ⟨⟨hs1, hs2⟩, ⟨hs3, hs4⟩⟩ := hSw; go_simp)⟩) hHeld ?_
          simp only [List.getElem_toArray, List.getElem_cons_zero, List.getElem_cons_succ, Act.put, List.setIfInBounds_toArray, List.set_cons_zero, List.set_cons_succ]
          refine wpAnyH_ready (rs := [8]) (by kernel_rfl) (by simp) ?_
          refine (AllReadyH.cons rfl (fun K hK => ?_) AllReadyH.nil)
          · refine step_callf rfl 18 #[.slice B q d, .int .i64 77] rfl (by kernel_rfl) (fun v w' => Amp w' x3.heap.size v l2 77 ∧ Ext x3 w') ((HP2.out hxx3).mono fun e w' ⟨v, h1, h2, h3⟩ => ⟨v, h1, h2, h3⟩) ?_
            rintro v2 x4 ⟨hA2, hEx4⟩
            have hxx4 := hxx3.trans hEx4
            have hA1 := hA1.ext hEx4
            have hN2_9 : ∀ q, v2.ownBlock = some q → q ≠ g9 := fun q hq => by have h1 := (hA2.blk q hq).1; have h2 := hB9.lt; omega
            have hB9 := hB9.ext hEx4
            have hN2_10 : ∀ q, v2.ownBlock = some q → q ≠ g10 := fun q hq => by have h1 := (hA2.blk q hq).1; have h2 := hB10.lt; omega
            have hB10 := hB10.ext hEx4
            have hA2 := hA2.lower hxx3.hsize
            obtain ⟨A2, n2, c2, rfl⟩ := amp_slice hA2
            refine hK.out _ _ (KS.out _ hxx4) (fun hHeld => ?_)
            clear hK K
            clear hEx4
            simp only [List.getElem_toArray, List.getElem_cons_zero, List.getElem_cons_succ, Act.put, List.setIfInBounds_toArray, List.set_cons_zero, List.set_cons_succ]
            refine wpAnyH_take (i := 11) (v := (.agg #[.slice (some A2) n2 c2, .int .i64 b])) rfl (by kernel_rfl) (by kernel_rfl) (by kernel_rfl) (fun _ _ _ h => h) (Or.inl ⟨by rfl, by (intro w hSw; obtain ⟨⟨hs1, hs2⟩, ⟨hs3, hs4⟩⟩ := hSw; go_simp)⟩) hHeld ?_
            simp only [List.getElem_toArray, List.getElem_cons_zero, List.getElem_cons_succ, Act.put, List.setIfInBounds_toArray, List.set_cons_zero, List.set_cons_succ]
            refine wpAnyH_ready (rs := [13]) (by kernel_rfl) (by simp) ?_
            refine (AllReadyH.cons rfl (fun K hK => ?_) AllReadyH.nil)
            · refine step_callf rfl 18 #[.slice C m e, .int .i64 77] rfl (by kernel_rfl) (fun v w' => Amp w' x4.heap.size v sg 77 ∧ Ext x4 w') ((HP3.out hxx4).mono fun e w' ⟨v, h1, h2, h3⟩ => ⟨v, h1, h2, h3⟩) ?_
              rintro v3 x5 ⟨hA3, hEx5⟩
              have hxx5 := hxx4.trans hEx5
              have hA1 := hA1.ext hEx5
              have hA2 := hA2.ext hEx5
              have hN3_9 : ∀ q, v3.ownBlock = some q → q ≠ g9 := fun q hq => by have h1 := (hA3.blk q hq).1; have h2 := hB9.lt; omega
              have hB9 := hB9.ext hEx5
              have hN3_10 : ∀ q, v3.ownBlock = some q → q ≠ g10 := fun q hq => by have h1 := (hA3.blk q hq).1; have h2 := hB10.lt; omega
              have hB10 := hB10.ext hEx5
              have hA3 := hA3.lower hxx4.hsize
              obtain ⟨A3, n3, c3, rfl⟩ := amp_slice hA3
              refine hK.out _ _ (KS.out _ hxx5) (fun hHeld => ?_)
              clear hK K
              clear hEx5
              simp only [List.getElem_toArray, List.getElem_cons_zero, List.getElem_cons_succ, Act.put, List.setIfInBounds_toArray, List.set_cons_zero, List.set_cons_succ]
              have hD9 : g9 ≠ g10 := by first | exact hD | exact fun e => hD e.symm
              have hD10 : g10 ≠ g9 := fun e => hD9 e.symm
              obtain ⟨d0, d1⟩ := cells2 hB9
              obtain ⟨f0, f1⟩ := frozen2 hB9
              refine wpAnyH_ready (rs := [16]) (by kernel_rfl) (by simp) ?_
              refine (AllReadyH.cons rfl (fun K hK => ?_) AllReadyH.nil)
              go_simp
              have hxx5s := st2_ext hxx5 hG9 (.slice (some A1) n1 c1) (.int .i64 a)
              have hB10 := st2_farE hB10 hD9 (.slice (some A1) n1 c1) (.int .i64 a)
              have hB9 := st2_blk hB9 (.slice (some A1) n1 c1) (.int .i64 a)
              have hA1 := amp_st2 hA1 hN1_9 (.slice (some A1) n1 c1) (.int .i64 a)
              have hA2 := amp_st2 hA2 hN2_9 (.slice (some A1) n1 c1) (.int .i64 a)
              have hA3 := amp_st2 hA3 hN3_9 (.slice (some A1) n1 c1) (.int .i64 a)
              unfold st2 at hxx5s hB9 hB10 hA1 hA2 hA3
              refine hK.out _ _ (KS.out _ hxx5s) (fun hHeld => ?_)
              clear hK K d0 d1 f0 f1
              have hall := And.intro hxx5s (And.intro hB9 (And.intro hB10 (And.intro hA1 (And.intro hA2 (And.intro hA3 hHeld)))))
              clear hxx5s hB9 hB10 hA1 hA2 hA3 hHeld
              revert hall
              generalize (x5.setCell ⟨g9, 0, none⟩ (.slice (some A1) n1 c1)).setCell ⟨g9, 1, none⟩ (.int .i64 a) = x5s
              rintro ⟨hxx5s, hB9, hB10, hA1, hA2, hA3, hHeld⟩
              try simp only [List.getElem_toArray, List.getElem_cons_zero, List.getElem_cons_succ, Act.put, List.setIfInBounds_toArray, List.set_cons_zero, List.set_cons_succ]
              obtain ⟨d0, d1⟩ := cells2 hB10
              obtain ⟨f0, f1⟩ := frozen2 hB10
              refine wpAnyH_ready (rs := [17]) (by kernel_rfl) (by simp) ?_
              refine (AllReadyH.cons rfl (fun K hK => ?_) AllReadyH.nil)
              go_simp
              have hxx5ss := st2_ext hxx5s hG10 (.slice (some A2) n2 c2) (.int .i64 b)
              have hB9 := st2_farE hB9 hD10 (.slice (some A2) n2 c2) (.int .i64 b)
              have hB10 := st2_blk hB10 (.slice (some A2) n2 c2) (.int .i64 b)
              have hA1 := amp_st2 hA1 hN1_10 (.slice (some A2) n2 c2) (.int .i64 b)
              have hA2 := amp_st2 hA2 hN2_10 (.slice (some A2) n2 c2) (.int .i64 b)
              have hA3 := amp_st2 hA3 hN3_10 (.slice (some A2) n2 c2) (.int .i64 b)
              unfold st2 at hxx5ss hB9 hB10 hA1 hA2 hA3
              refine hK.out _ _ (KS.out _ hxx5ss) (fun hHeld => ?_)
              clear hK K d0 d1 f0 f1
              have hall := And.intro hxx5ss (And.intro hB9 (And.intro hB10 (And.intro hA1 (And.intro hA2 (And.intro hA3 hHeld)))))
              clear hxx5ss hB9 hB10 hA1 hA2 hA3 hHeld
              revert hall
              generalize (x5s.setCell ⟨g10, 0, none⟩ (.slice (some A2) n2 c2)).setCell ⟨g10, 1, none⟩ (.int .i64 b) = x5ss
              rintro ⟨hxx5ss, hB9, hB10, hA1, hA2, hA3, hHeld⟩
              try simp only [List.getElem_toArray, List.getElem_cons_zero, List.getElem_cons_succ, Act.put, List.setIfInBounds_toArray, List.set_cons_zero, List.set_cons_succ]
              refine wpAnyH_take (i := 18) (v := (.slice (some A3) n3 c3)) rfl (by kernel_rfl) (by kernel_rfl) (by kernel_rfl) (fun _ _ _ h => h) (Or.inl ⟨by rfl, by (intro w hSw; obtain ⟨⟨hs1, hs2⟩, ⟨hs3, hs4⟩⟩ := hSw; go_simp)⟩) hHeld ?_
              simp only [List.getElem_toArray, List.getElem_cons_zero, List.getElem_cons_succ, Act.put, List.setIfInBounds_toArray, List.set_cons_zero, List.set_cons_succ]
              refine wpAnyH_done (by kernel_rfl) ?_ _
              have HF := Lib.hid (And.intro hB9 (And.intro hB10 (And.intro hA1 (And.intro hA2 (And.intro hA3 hxx5ss)))))
              clear hB9 hB10 hA1 hA2 hA3 hHeld hN1_9 hN2_9 hN3_9 hN1_10 hN2_10 hN3_10
              go_wp2_with fail
              go_meet
              exact ⟨g9, g10, A1, n1, c1, A2, n2, c2, A3, n3, c3, rfl, rfl, rfl, Lib.hid HF.out.1, Lib.hid HF.out.2.1, Lib.hid HF.out.2.2.1, Lib.hid HF.out.2.2.2.1, Lib.hid HF.out.2.2.2.2.1, Lib.hid HF.out.2.2.2.2.2⟩

  case rest =>
    obtain ⟨g9, g10, A1, n1, c1, A2, n2, c2, A3, n3, c3, rfl, rfl, rfl, HB9, HB10, HA1, HA2, HA3, HX2⟩ := hcut
    rename World => W2
    clear HP1 HP2 HP3 KS k30 k31 k40 k41
    have HI1 := Lib.hid (amp_ints HA1.out)
    have HI2 := Lib.hid (amp_ints HA2.out)
    have HI3 := Lib.hid (amp_ints HA3.out)
    have hn1 : n1 = n := by have h1 := HI1.out.2; have h2 := HL1.out.len; omega
    have hn2 : n2 = q := by have h1 := HI2.out.2; have h2 := HM1.out.len; omega
    have hn3 : n3 = m := by have h1 := HI3.out.2; have h2 := HS1.out.len; omega
    subst hn1; subst hn2; subst hn3
    have HR1 := Lib.hid HA1.out.rowB
    have HR2 := Lib.hid HA2.out.rowB
    have HXW := Lib.hid (HXX.out.trans HX2.out)
    have hW1 : w.heap.size ≤ W1.heap.size := HXX.out.hsize
    obtain ⟨k90, k91⟩ := cells2 HB9.out
    have HC1 := Lib.hid (show_any (a := a) HI1.out.1 nofun HI3.out.1)
    go_wp2_with fail
    refine HC1.out.mono ?_
    rintro e' w5 ⟨S5, q5, r5, rl, zz, k5, rfl, hr5, ho5, hx5⟩
    have HX6 := Lib.hid (hx5.trans (Ext.alloc w5 (.cells #[.slice S5 q5 r5, .int .i64 zz] 34)))
    have HB12 := Lib.hid (Blk.new w5 34 #[.slice S5 q5 r5, .int .i64 zz])
    have HO5 := Lib.hid (OwnI.ext ho5 (Ext.alloc w5 (.cells #[.slice S5 q5 r5, .int .i64 zz] 34)))
    have HR5 := Lib.hid hr5
    clear HC1 ho5 hx5 hr5 k90 k91
    go_upto_region 6 with fail
    revert HX6 HB12 HO5
    generalize w5.alloc (.cells #[.slice S5 q5 r5, .int .i64 zz] 34) = w6
    generalize w5.heap.size = p12
    intro HX6 HB12 HO5
    obtain ⟨k90, k91⟩ := cells2 (HB9.out.ext HX6.out)
    obtain ⟨k100, k101⟩ := cells2 (HB10.out.ext HX6.out)
    have HC2 := Lib.hid (signs_any (st := a) (at_ := b) (HI1.out.1.ext HX6.out) (HI2.out.1.ext HX6.out) nofun)
    go_wp2_with fail
    refine HC2.out.mono ?_
    rintro e' w7 ⟨S7, q7, r7, z7, l7, rfl, ho7, hq7, hx7⟩
    have HX7 := Lib.hid (HX6.out.trans hx7)
    have HB12a := Lib.hid (HB12.out.ext hx7)
    have HO5a := Lib.hid (OwnI.ext HO5.out hx7)
    have HO7 := Lib.hid (Own.lower ho7 HX6.out.hsize)
    clear HC2 ho7 hx7 k90 k91 k100 k101 HX6 HB12 HO5
    obtain ⟨k90, k91⟩ := cells2 (HB9.out.ext HX7.out)
    obtain ⟨k100, k101⟩ := cells2 (HB10.out.ext HX7.out)
    obtain ⟨k30, k31⟩ := cells2 (HB3.out.ext (HX2.out.trans HX7.out))
    obtain ⟨k40, k41⟩ := cells2 (HB4.out.ext (HX2.out.trans HX7.out))
    have HST1 := Lib.hid (stays_ext (x := 77) ((amp_wide HA1.out).ext HX7.out) HI1.out.2 (HL1.out.ext (HX2.out.trans HX7.out)))
    go_wp2_with fail
    refine HST1.out.mono ?_
    rintro e' w8 ⟨rfl, hx8⟩
    have HX8 := Lib.hid (HX7.out.trans hx8)
    have HE8 := Lib.hid hx8
    clear HST1 hx8 k90 k91 k100 k101 k30 k31 k40 k41
    obtain ⟨k100, k101⟩ := cells2 (HB10.out.ext HX8.out)
    obtain ⟨k40, k41⟩ := cells2 (HB4.out.ext (HX2.out.trans HX8.out))
    have HST2 := Lib.hid (stays_ext (x := 77) ((amp_wide HA2.out).ext HX8.out) HI2.out.2 (HM1.out.ext (HX2.out.trans HX8.out)))
    go_wp2_with fail
    refine HST2.out.mono ?_
    rintro e' w9 ⟨rfl, hx9⟩
    have HX9 := Lib.hid (HX8.out.trans hx9)
    have HE9 := Lib.hid (HE8.out.trans hx9)
    clear HST2 hx9 k100 k101 k40 k41 HX8 HE8
    have HST3 := Lib.hid (stays_ext (x := 77) ((amp_wide HA3.out).ext HX9.out) HI3.out.2 (HS1.out.ext (HX2.out.trans HX9.out)))
    go_wp2_with fail
    refine HST3.out.mono ?_
    rintro e' wa ⟨rfl, hx10⟩
    have HX10 := Lib.hid (HX9.out.trans hx10)
    have HE10 := Lib.hid (HE9.out.trans hx10)
    have HB12b := Lib.hid (HB12a.out.ext HE10.out)
    have HO5b := Lib.hid (OwnI.ext HO5a.out HE10.out)
    have HO7b := Lib.hid (OwnI.ext HO7.out HE10.out)
    clear HST3 HE10 hx10 HX7 HX9 HE9 HB12a HO5a HO7
    obtain ⟨k90, k91⟩ := cells2 (HB9.out.ext HX10.out)
    have HC3 := Lib.hid (show_any (a := a) (HI1.out.1.ext HX10.out) nofun (HI3.out.1.ext HX10.out))
    go_wp2_with fail
    refine HC3.out.mono ?_
    rintro e' wb ⟨S8, q8, r8, rl', zz', k8, rfl, hr8, ho8, hx8⟩
    have hrr := shwR_uniq HR5.out hr8
    injection hrr with hr1 hr2
    subst hr1; subst hr2
    have hW8 : W2.heap.size ≤ wa.heap.size := HX10.out.hsize
    have HXb := Lib.hid (HX10.out.trans (hx8.trans (Ext.alloc wb (.cells #[.slice S8 q8 r8, .int .i64 zz] 34))))
    have HB16 := Lib.hid (Blk.new wb 34 #[.slice S8 q8 r8, .int .i64 zz])
    have HO8 := Lib.hid (Own.lower (OwnI.ext ho8 (Ext.alloc wb (.cells #[.slice S8 q8 r8, .int .i64 zz] 34))) hW8)
    have HE8 := Lib.hid (hx8.trans (Ext.alloc wb (.cells #[.slice S8 q8 r8, .int .i64 zz] 34)))
    clear HC3 ho8 hx8 hr8 k90 k91
    go_upto_region 10 with fail
    revert HXb HB16 HO8 HE8
    generalize wb.alloc (.cells #[.slice S8 q8 r8, .int .i64 zz] 34) = wc
    generalize wb.heap.size = p16
    intro HXb HB16 HO8 HE8
    have HO7c := Lib.hid (OwnI.ext HO7b.out HE8.out)
    have HO5c := Lib.hid (OwnI.ext HO5b.out HE8.out)
    have HB12c := Lib.hid (HB12b.out.ext HE8.out)
    have HCL := Lib.hid (clone_ok HO7c.out.ints (own_cap HO7c.out) (by omega))
    clear HX10 HB12b HO5b HO7b HE8
    go_wp2_with fail
    refine HCL.out.mono ?_
    rintro e' wd ⟨Bl, dl, rfl, hol, _, hxd⟩
    have hWc : W2.heap.size ≤ wc.heap.size := HXb.out.hsize
    have HXd := Lib.hid (HXb.out.trans hxd)
    have HOL := Lib.hid (Own.lower hol hWc)
    have HO7d := Lib.hid (OwnI.ext HO7c.out hxd)
    have HO5d := Lib.hid (OwnI.ext HO5c.out hxd)
    have HO8d := Lib.hid (OwnI.ext HO8.out hxd)
    have HB12d := Lib.hid (HB12c.out.ext hxd)
    have HB16d := Lib.hid (HB16.out.ext hxd)
    clear HCL hol hxd HO7c HO5c HO8 HB12c HB16 HXb
    obtain ⟨k90, k91⟩ := cells2 (HB9.out.ext HXd.out)
    have HR1d := Lib.hid (HR1.out.ext HXd.out)
    have HR2d := Lib.hid (HR2.out.ext HXd.out)
    have HB10d := Lib.hid (HB10.out.ext HXd.out)
    have HXe := Lib.hid (HXW.out.trans HXd.out)
    clear HR1 HR2 HXd
    have HSP1 := Lib.hid (spoil_row (x := 122) HR1d.out)
    go_wp2_with fail
    refine HSP1.out.mono ?_
    rintro e' we ⟨⟨u1, rfl⟩, gx, hgx, hgr1, ⟨csx, hbx⟩, hk1⟩
    have HG1 := Lib.hid ((GrowLow.refl W2.heap.size wd).step hgr1 hgx.2)
    have HW1 := Lib.hid (ext_spoilt HXe.out hgr1 (by omega))
    have HR2e := Lib.hid (hk1 _ _ _ HR2d.out)
    have HB10e := Lib.hid (HB10d.out.grown hgr1 (row_ne_int HB10d.out hbx))
    have HB12e := Lib.hid (HB12d.out.grown hgr1 (row_ne_int HB12d.out hbx))
    have HB16e := Lib.hid (HB16d.out.grown hgr1 (row_ne_int HB16d.out hbx))
    clear HSP1 hgx hgr1 hbx hk1 HR1d HR2d HB10d HB12d HB16d HXe k90 k91
    obtain ⟨k100, k101⟩ := cells2 HB10e.out
    have HSP2 := Lib.hid (spoil_row (x := 122) HR2e.out)
    go_wp2_with fail
    refine HSP2.out.mono ?_
    rintro e' wf ⟨⟨u2, rfl⟩, gy, hgy, hgr2, ⟨csy, hby⟩, hk2⟩
    have HG2 := Lib.hid (HG1.out.step hgr2 hgy.2)
    have HW2 := Lib.hid (ext_spoilt HW1.out hgr2 (by omega))
    have HB12f := Lib.hid (HB12e.out.grown hgr2 (row_ne_int HB12e.out hby))
    have HB16f := Lib.hid (HB16e.out.grown hgr2 (row_ne_int HB16e.out hby))
    have F5 := Lib.hid (HG2.out.ownI HO5d.out (Nat.le_refl _))
    have F8 := Lib.hid (HG2.out.ownI HO8d.out (Nat.le_refl _))
    have F7 := Lib.hid (HG2.out.ownI HO7d.out (Nat.le_refl _))
    have FL := Lib.hid (HG2.out.ownI HOL.out (Nat.le_refl _))
    clear HSP2 hgy hgr2 hby hk2 HR2e HB10e HB12e HB16e HG1 HW1 k100 k101 HG2
    obtain ⟨k120, k121⟩ := cells2 HB12f.out
    obtain ⟨k160, k161⟩ := cells2 HB16f.out
    have HSR := Lib.hid (sameRow_ok (a := zz) F5.out.ints F8.out.ints)
    go_wp2_with fail
    refine HSR.out.mono ?_
    rintro e' wg ⟨rfl, hxg⟩
    have HEQ := Lib.hid (equal_ext (F7.out.ints.ext hxg) (FL.out.ints.ext hxg))
    rw [eqB_true.2 rfl] at HEQ
    go_wp2_with fail
    refine HEQ.out.mono ?_
    rintro e' wh ⟨rfl, hxh⟩
    go_wp2_with fail
    go_ret
    exact ⟨rfl, HW2.out.trans (hxg.trans hxh)⟩
end Go.Proofs.Ythphlghblmindaa
