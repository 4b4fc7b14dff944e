/-
  The walk of SpliceBetween.
-/
import Derived.Test.YtbdiiopllmhfeaaBtwM
namespace Go.Proofs.Ytbdiiopllmhfeaa
open Go.RowKit
set_option linter.unusedVariables false
set_option linter.unusedSimpArgs false

set_option maxHeartbeats 1000000 in
theorem between_large {A B : Option Addr} {n c q d : Nat} {w : World} (hnc : n ≤ c) (hcm : c ≤ maxLen) (hqd : q ≤ d) (hdm : d ≤ maxLen) (h : 4096 < n ∨ 4096 < q) :
    Calls Try.prog 18 #[.slice A n c, .slice B q d] w fun e' w' => e' = .returned (.tuple #[.slice none 0 0, .int .i64 2]) ∧ w = w' := by
  unfold maxLen at hcm hdm
  by_cases h1 : 4096 < n
  · go_enter Try.func18, Try.ntmps18
    go_wp2_with fail
    go_ret2
    exact ⟨rfl, rfl⟩
  · have h2 : 4096 < q := by omega
    go_enter Try.func18, Try.ntmps18
    go_wp2_with fail
    go_ret2
    exact ⟨rfl, rfl⟩

theorem btw_lit {k j : Nat} (h : btw [1, 2, 3] [1, 3] k j) : k = 1 ∧ j = 1 := by
  obtain ⟨h1, h2, h3, h4, h5⟩ := h
  simp only [List.length_cons, List.length_nil] at h1 h4 h5
  have hk : k = 0 ∨ k = 1 ∨ k = 2 := by omega
  have hj : j = 0 ∨ j = 1 ∨ j = 2 := by omega
  rcases hk with rfl | rfl | rfl
  · exact absurd rfl (h4 (by omega))
  · rcases hj with rfl | rfl | rfl
    · exact absurd rfl (h5 (by omega))
    · exact ⟨rfl, rfl⟩
    · omega
  · simp at h2

/-- What is edge-wise unlike. -/
theorem btw_edge {l m : List Int} {k j : Nat} (h : btw l m k j) (h1 : k < l.length - j) (h2 : k < m.length - j) :
    gI ((l.drop k).take (l.length - j - k)) 0 ≠ gI ((m.drop k).take (m.length - j - k)) 0 ∧ gI ((l.drop k).take (l.length - j - k)) (l.length - j - k - 1) ≠ gI ((m.drop k).take (m.length - j - k)) (m.length - j - k - 1) := by
  obtain ⟨a1, a2, a3, a4, a5⟩ := h
  have e : ∀ (x : List Int) (L i : Nat), i < L → gI ((x.drop k).take L) i = gI x (k + i) := fun x L i hi => by
    unfold gI; rw [List.getElem?_take, if_pos hi, List.getElem?_drop]
  rw [e _ _ 0 (by omega), e _ _ 0 (by omega), e _ _ _ (by omega), e _ _ _ (by omega)]
  refine ⟨a4 (by omega), ?_⟩
  have := a5 (by omega)
  rw [show k + (l.length - j - k - 1) = l.length - 1 - j by omega, show k + (m.length - j - k - 1) = m.length - 1 - j by omega]
  exact this
theorem edit_cells {w : World} {g : Nat} {s : Spl} (h : EditAt w (some ⟨g, 0, none⟩) 1 1 [s]) :
    ∃ B m d, w.cell? ⟨g, 0, none⟩ = some (.int .i64 s.f) ∧ w.cell? ⟨g, 1, none⟩ = some (.int .i64 s.t) ∧ w.cell? ⟨g, 2, none⟩ = some (.slice B m d) ∧ Ints w B m d s.x := by
  obtain ⟨ad, B, m, d, e, k0, k1, k2, k3, _⟩ := h.at_ (k := 0) (by omega)
  injection e with e
  subst e
  exact ⟨B, m, d, k0, k1, k2, k3⟩

set_option maxRecDepth 100000 in
set_option maxHeartbeats 8000000 in
theorem spliceBetween_walk {l m : List Int} {A B : Option Addr} {n c q d : Nat} {w : World} (hl : Ints w A n c l) (hA : A = none → c = 0) (hm : Ints w B q d m) (hB : B = none → d = 0) :
    Calls Try.prog 5 #[.slice A n c, .slice B q d] w fun e' w' => e' = .returned (.bool true) ∧ Ext w w' := by
  have hln := Lib.hid hl.len
  have hmn := Lib.hid hm.len
  have hnc := hl.ncap
  have hcm := hl.nmax
  have hqd := hm.ncap
  have hdm := hm.nmax
  have HMX := Lib.hid (And.intro hcm hdm)
  unfold maxLen at hcm hdm
  have HAN := Lib.hid hA
  have HBN := Lib.hid hB
  clear hA hB
  have hx0 : Ext w ((w.alloc (.cells #[.int .i64 1, .int .i64 2, .int .i64 3] 3)).alloc (.cells #[.int .i64 1, .int .i64 3] 3)) := (Ext.alloc _ _).to_alloc _
  have hb0 := (Blk.new w 3 #[.int .i64 1, .int .i64 2, .int .i64 3]).ext (Ext.alloc _ (.cells #[.int .i64 1, .int .i64 3] 3))
  have hb1 := Blk.new (w.alloc (.cells #[.int .i64 1, .int .i64 2, .int .i64 3] 3)) 3 #[.int .i64 1, .int .i64 3]
  rw [show (w.alloc (.cells #[.int .i64 1, .int .i64 2, .int .i64 3] 3)).heap.size = w.heap.size + 1 by simp] at hb1
  have hi1 : Ints _ (some ⟨w.heap.size, 0, none⟩) 3 3 [1, 2, 3] := Blk.ints (l := [1, 2, 3]) hb0 rfl (by unfold maxLen; omega)
  have hi2 : Ints _ (some ⟨w.heap.size + 1, 0, none⟩) 2 2 [1, 3] := Blk.ints (l := [1, 3]) hb1 rfl (by unfold maxLen; omega)
  have HL := Lib.hid (between_ok hi1 hi2 nofun (by omega) (by omega))
  clear hb0 hb1 hi1 hi2
  go_enter Try.func5, Try.ntmps5
  go_wp2_with fail
  refine HL.out.mono ?_
  rintro e' w1 ⟨⟨k, j, hb, hcase⟩, he1⟩
  obtain ⟨rfl, rfl⟩ := btw_lit hb
  rcases hcase with ⟨h1, _, _⟩ | ⟨_, g, rfl, hed⟩
  · omega
  · have hed' : EditAt w1 (some ⟨g, 0, none⟩) 1 1 [⟨1, 2, []⟩] := hed
    have hx1 := hx0.trans he1
    have hx2 := hx1.to_alloc (.cells #[.int .i64 1, .int .i64 2, .slice none 0 0] 25)
    have HS := Lib.hid (sameEdit_ok (hed'.ext (Ext.alloc w1 (.cells #[.int .i64 1, .int .i64 2, .slice none 0 0] 25))) (edit_lit1 (Blk.new w1 25 #[.int .i64 1, .int .i64 2, .slice none 0 0]) (Ints.none_ _) (fun _ => rfl)))
    clear HL hb hed hed' hx0 hx1 he1
    go_wp2_with fail
    refine HS.out.mono ?_
    rintro e' w2 ⟨rfl, he2⟩
    have hx3 := hx2.trans he2
    clear HS hx2 he2
    by_cases hsz : 4096 < n ∨ 4096 < q
    · have HL1 := Lib.hid (fun w' => between_large (A := A) (B := B) (w := w') hnc HMX.out.1 hqd HMX.out.2 hsz)
      have HL2 := Lib.hid (fun w' => between_large (A := B) (B := A) (w := w') hqd HMX.out.2 hnc HMX.out.1 hsz.symm)
      clear hsz
      go_wp2_with fail
      refine (HL1.out _).mono ?_
      rintro e' w3 ⟨rfl, rfl⟩
      go_wp2_with fail
      refine (HL2.out _).mono ?_
      rintro e' w3 ⟨rfl, rfl⟩
      go_wp2_with fail
      go_ret
      exact ⟨rfl, hx3⟩
    · have hn4 : n ≤ 4096 := by omega
      have hq4 : q ≤ 4096 := by omega
      have HL1 := Lib.hid (between_ok (hl.ext hx3) (hm.ext hx3) HBN.out hn4 hq4)
      have HL2 := Lib.hid (fun w' (h' : Ext w w') => between_ok (hm.ext h') (hl.ext h') HAN.out hq4 hn4)
      clear hsz
      go_wp2_with fail
      refine HL1.out.mono ?_
      rintro e' w3 ⟨⟨k, j, hb, hcase⟩, he3⟩
      have hx4 := hx3.trans he3
      have HL3 := Lib.hid (HL2.out _ hx4)
      clear HL1 HL2
      rcases hcase with ⟨hk1, hk2, rfl⟩ | ⟨hne, g1, rfl, hed1⟩
      · have hlm : l = m := btw_whole hb (by rw [hln.out]; exact hk1) (by rw [hmn.out]; exact hk2)
        have HB := Lib.hid hb
        have HLM := Lib.hid hlm
        have hnq : n = q := by omega
        have HNQ := Lib.hid (And.intro hk1 hk2)
        clear hb hlm hk1 hk2
        subst hnq
        go_wp2_with fail
        refine HL3.out.mono ?_
        rintro e' w4 ⟨⟨k', j', hb', hcase'⟩, he4⟩
        have hkk := btw_front HB.out hb'
        rcases hcase' with ⟨_, _, rfl⟩ | ⟨hne', _⟩
        · have hx5 := hx4.trans he4
          have HAp := Lib.hid (apply_ok (hl.ext hx5) (EditAt.none_ w4) (chkF_zero.2 ⟨by omega, by omega, trivial, by simp only [fits]; omega⟩))
          rw [show appF l 0 [] = l from rfl] at HAp
          clear HL3 hb' hkk HNQ HB
          go_wp2_with fail
          refine HAp.out.mono ?_
          rintro e' w5 ⟨C, qc, dc, rfl, hoc, _, he5⟩
          have hqc : qc = n := by rw [← hoc.ints.len, hln.out]
          subst hqc
          have hx6 := hx5.trans he5
          have HE1 := Lib.hid (equal_same (by have := hoc.ints; rw [HLM.out] at this; exact this) (hm.ext hx6))
          have HE2 := Lib.hid (fun w' (h' : Ext w w') => equal_same (by have := hl.ext h'; rw [HLM.out] at this; exact this) (hm.ext h'))
          have b1 : ((qc : Int) != (qc : Int)) = false := by simp
          clear HAp hoc
          go_wp2_with fail
          refine HE1.out.mono ?_
          rintro e' w6 ⟨rfl, he6⟩
          have hx7 := hx6.trans he6
          have HE3 := Lib.hid (HE2.out _ hx7)
          clear HE1 HE2
          go_wp2_with fail
          refine HE3.out.mono ?_
          rintro e' w7 ⟨rfl, he7⟩
          go_wp2_with fail
          go_ret
          exact ⟨rfl, hx7.trans he7⟩
        · exact absurd ⟨by have := HNQ.out; omega, by have := HNQ.out; omega⟩ hne'
      · have HB := Lib.hid hb
        have HNE := Lib.hid hne
        have HED1 := Lib.hid hed1
        clear hb hne hed1
        go_wp2_with fail
        refine HL3.out.mono ?_
        rintro e' w4 ⟨⟨k', j', hb', hcase'⟩, he4⟩
        have hkk := btw_front HB.out hb'
        rcases hcase' with ⟨h1, h2, _⟩ | ⟨_, g2, rfl, hed2⟩
        · exact absurd ⟨by omega, by omega⟩ HNE.out
        · have hx5 := hx4.trans he4
          have hed1 := HED1.out.ext he4
          have HCK := btw_chk HB.out (by rw [hln.out]; exact hn4) (by rw [hmn.out]; exact hq4) (by rw [hln.out, hmn.out]; exact HNE.out)
          rw [hln.out] at HCK
          have HAp := Lib.hid (apply_ok (hl.ext hx5) hed1 HCK)
          rw [btw_app HB.out] at HAp
          obtain ⟨S2, m2, d2, r0, _, _, _⟩ := edit_cells hed2
          have hkk2 : (btwS m l k' j').f = (k : Int) := by rw [hkk]; rfl
          rw [hkk2] at r0
          obtain ⟨S1, m1, d1, s0, s1, s2, hs1⟩ := edit_cells hed1
          have hml := hs1.len
          obtain ⟨h1, _⟩ := HB.out
          have hgo : Hid (k ≤ n - j ∧ n - j ≤ n ∧ m1 = q - j - k) := Lib.hid (by
            rw [hln.out, hmn.out] at h1
            refine ⟨by omega, by omega, ?_⟩
            rw [← hml]
            simp only [btwS, hmn.out]
            have := take_part m (a := k) (b := q - j) (by omega) (by rw [hmn.out]; omega)
            exact this)
          have hs0 : (btwS l m k j).f = (k : Int) := rfl
          have hs1' : (btwS l m k j).t = ((n - j : Nat) : Int) := by unfold btwS; rw [hln.out]
          have hs2' : (btwS l m k j).x = (m.drop k).take (q - j - k) := by unfold btwS; rw [hmn.out]
          rw [hs0] at s0
          rw [hs1'] at s1
          rw [hs2'] at hs1
          obtain ⟨u, hu⟩ : ∃ u, u = n - j := ⟨_, rfl⟩
          rw [← hu] at s1 hgo
          have HU := Lib.hid hu
          have HS1 := Lib.hid hs1
          clear HL3 hb' hkk hed1 hed2 HCK hkk2 hs0 hs1' hs2' hml h1 hs1 HED1 hu
          go_wp2_with fail
          refine HAp.out.mono ?_
          rintro e' w5 ⟨C, qc, dc, rfl, hoc, _, he5⟩
          have hqc : qc = q := by rw [← hoc.ints.len, hmn.out]
          subst hqc
          have hx6 := hx5.trans he5
          have HE1 := Lib.hid (equal_same hoc.ints (hm.ext hx6))
          have t0 := he5.cell s0
          have t1 := he5.cell s1
          have t2 := he5.cell s2
          have v0 := he5.cell r0
          clear HAp hoc s0 s1 s2 r0
          go_wp2_with fail
          refine HE1.out.mono ?_
          rintro e' w6 ⟨rfl, he6⟩
          have hx7 := hx6.trans he6
          have c0 := he6.cell t0
          have c1 := he6.cell t1
          have c2 := he6.cell t2
          have y0 := he6.cell v0
          have hcut := run_cutA A n c k u hgo.out.1 (by have := hgo.out.2.1; omega)
          have HGI := Lib.hid (hl.cutA hgo.out.1 hgo.out.2.1)
          have HTI := Lib.hid (HS1.out.ext (he5.trans he6))
          have hgy : g2 ≠ w6.heap.size := by
            have := World.block_lt_of_cell? w6 _ y0
            exact Nat.ne_of_lt this
          have HEDGE : Hid (0 < u - k → 0 < m1 → gI ((l.drop k).take (u - k)) 0 ≠ gI ((m.drop k).take (qc - j - k)) 0 ∧ gI ((l.drop k).take (u - k)) (u - k - 1) ≠ gI ((m.drop k).take (qc - j - k)) (m1 - 1)) := Lib.hid (fun h1 h2 => by
            have h3 := hgo.out.2.2
            have h4 := HU.out
            have := btw_edge HB.out (by rw [hln.out]; omega) (by rw [hmn.out]; omega)
            rw [hln.out, hmn.out, ← h4, ← h3] at this
            rw [← h3]
            exact this)
          clear HE1 t0 t1 t2 v0 HS1
          go_wp2_with fail
          have hbk := Blk.new w6 25 #[.int .i64 k, .int .i64 u, .slice S1 m1 d1]
          have hy1 := (Ext.alloc w6 (.cells #[.int .i64 k, .int .i64 u, .slice S1 m1 d1] 25)).cell y0
          have hG := HGI.out.ext (hx7.to_alloc (.cells #[.int .i64 k, .int .i64 u, .slice S1 m1 d1] 25))
          have hT := HTI.out.ext (Ext.alloc w6 (.cells #[.int .i64 k, .int .i64 u, .slice S1 m1 d1] 25))
          have hx8 := hx7.to_alloc (.cells #[.int .i64 k, .int .i64 u, .slice S1 m1 d1] 25)
          clear HGI HTI y0 c0 c1 c2 hcut hgy hx7
          revert hbk hy1 hG hT hx8 HEDGE
          generalize w6.alloc (.cells #[.int .i64 k, .int .i64 u, .slice S1 m1 d1] 25) = W
          generalize w6.heap.size = gb
          generalize cutA A c k = CA
          generalize (l.drop k).take (u - k) = Gl
          generalize (m.drop k).take (qc - j - k) = Tl
          generalize u - k = gl
          intro HEDGE hbk hy1 hG hT hx8
          have c0 := hbk.cell 0
          have c2 := hbk.cell 2
          simp only [List.getElem?_toArray, List.getElem?_cons_zero, List.getElem?_cons_succ] at c0 c2
          have hgc := hG.ncap
          have hgm := hG.nmax
          have htc := hT.ncap
          have htm := hT.nmax
          unfold maxLen at hgm htm
          have b9 : ((k : Int) == (k : Int)) = true := by simp
          clear hbk hgo HU HNE hx6 hx5 hx4 hx3 he6 he5 he4 he3
          by_cases hg0 : 0 < gl
          · have d1' : decide (0 < gl) = true := by simpa using hg0
            have d1i : (0 : Int) < (gl : Int) := by omega
            by_cases ht0 : 0 < m1
            · have d2' : decide (0 < m1) = true := by simpa using ht0
              have d2i : (0 : Int) < (m1 : Int) := by omega
              obtain ⟨e1, e2⟩ := HEDGE.out hg0 ht0
              obtain ⟨p1, hp1⟩ : ∃ p1, p1 = gl - 1 := ⟨_, rfl⟩
              obtain ⟨p2, hp2⟩ : ∃ p2, p2 = m1 - 1 := ⟨_, rfl⟩
              rw [← hp1, ← hp2] at e2
              have hw1 : IntKind.i64.wrap ((gl : Int) - 1) = (p1 : Int) := by rw [IntWalk.i64_in _ (by omega)]; omega
              have hw2 : IntKind.i64.wrap ((m1 : Int) - 1) = (p2 : Int) := by rw [IntWalk.i64_in _ (by omega)]; omega
              have hp1g : p1 < gl := by omega
              have hp2m : p2 < m1 := by omega
              obtain ⟨a1, rfl, hc1⟩ := hG.at_ hg0
              obtain ⟨a2, rfl, hc2⟩ := hT.at_ ht0
              have k1 := hc1 0 hg0
              have k2 := hc2 0 ht0
              have k3 := hc1 p1 hp1g
              have k4 := hc2 p2 hp2m
              rw [add_nought] at k1 k2
              have b1 : (gI Gl 0 == gI Tl 0) = false := by simpa using e1
              have b2 : (gI Gl p1 == gI Tl p2) = false := by simpa using e2
              clear hc1 hc2 e1 e2 hp1 hp2 HEDGE
              go_wp2_with fail
              go_quiet (fail)
              clear hw1 hw2
              go_wp2_with fail
              go_quiet (fail)
              go_wp2_with fail
              go_ret
              exact ⟨rfl, hx8.trans (by first | exact Ext.drewN _ _ | exact (Ext.drewN _ _).trans (Ext.drewN _ _))⟩
            · obtain rfl : m1 = 0 := by omega
              clear HEDGE ht0
              go_wp2_with fail
              go_quiet (fail)
              go_wp2_with fail
              go_quiet (fail)
              go_wp2_with fail
              go_ret
              exact ⟨rfl, hx8.trans (by first | exact Ext.drewN _ _ | exact (Ext.drewN _ _).trans (Ext.drewN _ _))⟩
          · obtain rfl : gl = 0 := by omega
            clear HEDGE hg0
            go_wp2_with fail
            go_quiet (fail)
            go_wp2_with fail
            go_quiet (fail)
            go_wp2_with fail
            go_ret
            exact ⟨rfl, hx8.trans (by first | exact Ext.drewN _ _ | exact (Ext.drewN _ _).trans (Ext.drewN _ _))⟩
end Go.Proofs.Ytbdiiopllmhfeaa
