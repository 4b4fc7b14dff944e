/-
  The walk of SeekTurned.
-/
import Derived.Test.YtgpagfbmbnlcpaaSeekT
import Derived.Test.YtgpagfbmbnlcpaaEq
import Derived.Test.YtgpagfbmbnlcpaaClone
import Derived.Test.YtgpagfbmbnlcpaaRev
namespace Go.Proofs.Ytgpagfbmbnlcpaa
open Go.RowKit
set_option linter.unusedVariables false
set_option linter.unusedSimpArgs false

set_option maxHeartbeats 1000000 in
theorem reverse_any {A : Option Addr} {n c base : Nat} {l : List Int} {w : World} (h : OwnI w base A n c l) (hn : n ≤ 4611686018427387904) :
    Calls Try.prog 12 #[.slice A n c] w fun e w' => e = .returned (.tuple #[]) ∧ OwnI w' base A n c l.reverse ∧ w.grownBy w' (Value.slice A n c).ownBlock := by
  rcases h.2 with ⟨hv, h0⟩ | ⟨g, cap, cur, hv, _⟩
  · injection hv with hA h1 hc
    subst hA; subst hc; subst h0
    have hl : l = [] := List.eq_nil_of_length_eq_zero h.ints.len
    subst hl
    go_enter Try.func12, Try.ntmps12
    go_wp2_with fail
    go_loopw [2, 3] (fun i j wr => i = .int .i64 0 ∧ j = .int .i64 (-1) ∧ wr = w) (fun _ _ _ => 0)
    case atStart => exact ⟨rfl, rfl, rfl⟩
    case round =>
      obtain ⟨rfl, rfl, rfl⟩ := hrel
      go_wp2_with fail
      go_end0
      exact ⟨rfl, OwnI.nil _ _, World.grownBy.refl _ _⟩
  · injection hv with hA h1 hc
    subst hA; subst hc
    exact reverse_ok h hn

set_option maxHeartbeats 1000000 in
theorem st1_ok {a b : Int} {A B : Option Addr} {n c m d : Nat} {p1 p2 : Addr} {w : World} (c1 : w.cell? p1 = some (.slice A n c)) (c2 : w.cell? p2 = some (.slice B m d)) (hn : n ≤ 4096) (hm : m ≤ 4096) (ha : 0 ≤ a ∧ a ≤ 4096) (hb : 0 ≤ b ∧ b ≤ 4096) (h : a + n = m - b) :
    Calls Try.prog 14 #[.int .i64 a, .int .i64 b, .pointer (some p1), .pointer (some p2)] w fun e w' => e = .returned (.bool true) ∧ w' = w := by
  have h1 : (a + (n : Int) == (m : Int) - b) = true := by simp; omega
  obtain ⟨h2, h3⟩ := ha
  obtain ⟨h4, h5⟩ := hb
  have HH := Lib.hid h
  clear h
  go_enter Try.func14, Try.ntmps14
  go_wp2_with fail
  go_ret
  exact ⟨rfl, rfl⟩

set_option maxHeartbeats 2000000 in
theorem eqf_ok {A B C D : Option Addr} {n c m d N e1 e2 : Nat} {l l' : List Int} {p1 p2 : Addr} {w : World} (c1 : w.cell? p1 = some (.slice A n c)) (c2 : w.cell? p2 = some (.slice B m d)) (hn : n ≤ 4096) (hm : m ≤ 4096)
    (hl : Ints w C N e1 l) (hl' : Ints w D N e2 l') (hg : Hid (∀ k, k < N → (0 ≤ gI l k ∧ gI l k ≤ 4096) ∧ (0 ≤ gI l' k ∧ gI l' k ≤ 4096) ∧ gI l k + n = m - gI l' k)) :
    Calls Try.prog 13 #[.slice C N e1, .slice D N e2, .func (.func 14) #[] #[.pointer (some p1), .pointer (some p2)]] w fun e w' => e = .returned (.bool true) ∧ w' = w := by
  have h1 := hl.ncap
  have h2 := hl.nmax
  unfold maxLen at h2
  go_enter Try.func13, Try.ntmps13
  go_wp2_with fail
  go_loopw [17] (fun i wr => ∃ k : Nat, k ≤ N ∧ i = .int .i64 k ∧ wr = w) (fun i _ => N - (intOf i).toNat)
  case atStart => exact ⟨0, by omega, rfl, rfl⟩
  case round =>
    obtain ⟨k, hk, rfl, rfl⟩ := hrel
    by_cases hlt : k < N
    · obtain ⟨a1, rfl, hc1⟩ := hl.at_ hlt
      obtain ⟨a2, rfl, hc2⟩ := hl'.at_ hlt
      have d1 := hc1 k hlt
      have d2 := hc2 k hlt
      have HG := Lib.hid (hg.out k hlt)
      clear hc1 hc2
      go_wp2_with fail
      refine (st1_ok c1 c2 hn hm HG.out.1 HG.out.2.1 HG.out.2.2).mono ?_
      rintro e w1 ⟨rfl, rfl⟩
      go_wp2_with fail
      go_roundw
      case rel => exact ⟨k + 1, by omega, by go_num, trivial⟩
      case measure => simp [intOf]; omega
    · obtain rfl : k = N := by omega
      go_wp2_with fail
      go_ret
      exact ⟨rfl, rfl⟩

theorem st_lit : allP (chars ⟨#[97, 97]⟩) (chars ⟨#[97, 97, 97]⟩) = [0, 1] := by decide +kernel
theorem allP_bd {p s : List Int} {k : Nat} (hk : k < (allP p s).length) : 0 ≤ gI (allP p s) k ∧ gI (allP p s) k ≤ (s.length : Int) - p.length ∧ p.length ≤ s.length := by
  have h1 : gI (allP p s) k ∈ allP p s := by
    unfold gI
    rw [List.getElem?_eq_getElem hk]
    exact List.getElem_mem hk
  generalize gI (allP p s) k = v at *
  unfold allP posl at h1
  obtain ⟨x, hx, rfl⟩ := List.mem_map.1 h1
  have := List.mem_range.1 (List.mem_filter.1 hx).1
  omega
theorem all_rev_get {p s : List Int} {k : Nat} (hk : k < (allP p s).length) : gI (allP p.reverse s.reverse).reverse k = (s.length : Int) - p.length - gI (allP p s) k := by
  rw [all_rev]
  unfold gI
  rw [List.getElem?_map, List.getElem?_eq_getElem hk]
  rfl

/-- All, whatever lies within the bounds. -/
theorem all_ok {p s : List Int} {A B : Option Addr} {n m c d : Nat} {w : World} (hp : Ints w A n c p) (hs : Ints w B m d s) (hn : n ≤ 4096) (hm : m ≤ 4096) :
    Calls Try.prog 10 #[.slice A n c, .slice B m d] w fun e w' => ∃ C n' c', e = .returned (.tuple #[.slice C n' c', .int .i64 0]) ∧ OwnI w' w.heap.size C n' c' (allP p s) ∧ Ext w w' := by
  rcases Nat.eq_zero_or_pos n with h0 | h0
  · subst h0
    have : p = [] := List.eq_nil_of_length_eq_zero hp.len
    subst this
    exact all_empty hp hs hm
  · exact all_some hp hs hn h0 hm
set_option maxHeartbeats 1000000 in
theorem all_large {p s : List Int} {A B : Option Addr} {n m c d : Nat} {w : World} (hp : Ints w A n c p) (hs : Ints w B m d s) (h : 4096 < n ∨ 4096 < m) :
    Calls Try.prog 10 #[.slice A n c, .slice B m d] w fun e w' => e = .returned (.tuple #[.slice none 0 0, .int .i64 2]) ∧ Ext w w' := by
  have hmm := hs.nmax
  have hmc := hs.ncap
  by_cases hn : 4096 < n
  · have HB := Lib.hid (borders_large (A := A) (c := c) (w := w) hn (Nat.le_trans hp.ncap hp.nmax))
    unfold maxLen at hmm
    go_enter Try.func10, Try.ntmps10
    go_wp2_with fail
    refine HB.out.mono ?_
    rintro e w1 ⟨rfl, rfl⟩
    go_wp2_with fail
    go_ret2
    exact ⟨rfl, Ext.refl _⟩
  · have hm2 : 4096 < m := by omega
    have HB := Lib.hid (borders_ints hp (by omega))
    unfold maxLen at hmm
    clear h
    go_enter Try.func10, Try.ntmps10
    go_wp2_with fail
    refine HB.out.mono ?_
    rintro e w1 ⟨B1, rfl, hb1, he1⟩
    go_wp2_with fail
    go_ret2
    exact ⟨rfl, he1⟩

/-- Two rows of the call's own, apart. -/
def Apart (A : Option Addr) (n c : Nat) (B : Option Addr) (m d : Nat) : Prop := (Value.slice A n c).ownBlock = none ∨ (Value.slice A n c).ownBlock ≠ (Value.slice B m d).ownBlock
theorem apart_of {b1 b2 : Nat} {w1 w2 : World} {A B : Option Addr} {n c m d : Nat} {p f : List Int} (h1 : OwnI w1 b1 A n c p) (h2 : OwnI w2 b2 B m d f) (hb : w1.heap.size ≤ b2) : Apart A n c B m d ∧ Apart B m d A n c := by
  constructor
  · rcases hA : (Value.slice A n c).ownBlock with _ | g
    · exact .inl hA
    · right
      intro e
      have b1 := Own.blk h1 g hA
      have b2 := Own.blk h2 g (by rw [← e, hA])
      omega
  · rcases hB : (Value.slice B m d).ownBlock with _ | g
    · exact .inl hB
    · right
      intro e
      have b1 := Own.blk h2 g hB
      have b2 := Own.blk h1 g (by rw [← e, hB])
      omega

set_option maxRecDepth 100000 in
set_option maxHeartbeats 8000000 in
theorem seekTurned_walk {p s : List Int} {A B : Option Addr} {n m c d : Nat} {w : World} (hp : Ints w A n c p) (hs : Ints w B m d s) (hA : A = none → c = 0) (hB : B = none → d = 0) (zp : n * 8 ≤ 140737488351232) (zs : m * 8 ≤ 140737488351232) :
    Calls Try.prog 5 #[.slice A n c, .slice B m d] w fun e w' => e = .returned (.bool true) ∧ Ext w w' := by
  have hx0 : Ext w ((w.alloc (.cells #[.slice A n c] 22)).alloc (.cells #[.slice B m d] 22)) := (Ext.alloc _ _).to_alloc _
  have hb2 := (Blk.new w 22 #[.slice A n c]).ext (Ext.alloc _ (.cells #[.slice B m d] 22))
  have hb3 : Blk ((w.alloc (.cells #[.slice A n c] 22)).alloc (.cells #[.slice B m d] 22)) (w.heap.size + 1) 22 #[.slice B m d] := by
    simpa using Blk.new (w.alloc (.cells #[.slice A n c] 22)) 22 #[.slice B m d]
  have hpl := Lib.hid hp.len
  have hsl := Lib.hid hs.len
  have ZP := Lib.hid zp
  have ZS := Lib.hid zs
  have HP := Lib.hid hp
  have HS := Lib.hid hs
  have HAA := Lib.hid hA
  have HBB := Lib.hid hB
  have hnc := hp.ncap
  have hcm := hp.nmax
  have hmc := hs.ncap
  have hdm := hs.nmax
  unfold maxLen at hcm hdm
  have q1 : eqB [0, 1] [0, 1] = true := by decide
  clear hp hs hA hB zp zs
  go_enter Try.func5, Try.ntmps5
  go_wp2_with fail
  refine (of_ok _ _ (by decide)).mono ?_
  rintro e w1 ⟨A1, c1, rfl, ho1, he1⟩
  revert hx0 hb2 hb3 ho1 he1
  generalize (w.alloc (.cells #[.slice A n c] 22)).alloc (.cells #[.slice B m d] 22) = W0
  intro hx0 hb2 hb3 ho1 he1
  go_wp2_with fail
  refine (of_ok _ _ (by decide)).mono ?_
  rintro e w2 ⟨A2, c2, rfl, ho2, he2⟩
  go_wp2_with fail
  refine (all_ok (ho1.ints.ext he2) ho2.ints (by decide) (by decide)).mono ?_
  rintro e w3 ⟨C1, n1, d1, rfl, ho3, he3⟩
  rw [st_lit] at ho3
  go_wp2_with fail
  refine (equal_ext (ho3.ints.ext (Ext.alloc _ _)) (Blk.ints (l := [0, 1]) (Blk.new _ _ _) rfl (by decide))).mono ?_
  rintro e w4 ⟨rfl, he4⟩
  have hx4 := ((he1.trans he2).trans he3).trans ((Ext.alloc _ _).trans he4)
  have hb2 := hb2.ext hx4
  have hb3 := hb3.ext hx4
  have hxw := hx0.trans hx4
  clear ho1 ho2 ho3 he1 he2 he3 he4 hx0 hx4
  have k0 := hb2.cell 0
  have k1 := hb3.cell 0
  simp only [List.getElem?_toArray, List.getElem?_cons_zero] at k0 k1
  by_cases hbig : 4096 < n ∨ 4096 < m
  · have HA1 := Lib.hid (all_large (HP.out.ext hxw) (HS.out.ext hxw) hbig)
    have HBG := Lib.hid hbig
    clear hbig
    go_wp2_with fail
    refine HA1.out.mono ?_
    rintro e w5 ⟨rfl, he5⟩
    have hb2 := hb2.ext he5
    have hb3 := hb3.ext he5
    have hxw := hxw.trans he5
    clear k0 k1
    have k0 := hb2.cell 0
    have k1 := hb3.cell 0
    simp only [List.getElem?_toArray, List.getElem?_cons_zero] at k0 k1
    go_wp2_with fail
    go_region_held3 (fun w' => w'.cell? ⟨w.heap.size, 0, none⟩ = some (.slice A n c) ∧ w'.cell? ⟨w.heap.size + 1, 0, none⟩ = some (.slice B m d)) (first | go_keep | (exact ⟨Ext.cell (by assumption) (by first | assumption | exact And.left (by assumption)), Ext.cell (by assumption) (by first | assumption | exact And.right (by assumption))⟩)) (first
      | (go_at_call 11
         first
           | (refine (clone_ok (A := A) (n := n) (c := c) (l := p) (HP.out.ext (by first | exact hxw.to_drew | exact hxw.to_drew.trans (by assumption))) HAA.out (by have := ZP.out; omega)).mono ?_
              rintro e wa ⟨Q1, f1, rfl, hQ1, nQ1, hea⟩)
           | (refine (clone_ok (A := B) (n := m) (c := d) (l := s) (HS.out.ext (by first | exact hxw.to_drew | exact hxw.to_drew.trans (by assumption))) HBB.out (by have := ZS.out; omega)).mono ?_
              rintro e wb ⟨T1, g1, rfl, hT1, nT1, heb⟩)))
    · have hQ := hQ1.ext heb
      have hT := hT1
      have hez := hea.trans heb
      have hap := apart_of hQ1 hT1 (Nat.le_refl _)
      have hbt := hea.hsize
      have hbq := Nat.le_refl w5.heap.size
      have hyz : Ext w5 wb := (Ext.drew w5).trans hez
      have HAP := Lib.hid hap
      clear hQ1 hT1 hea heb hap
      go_wp2_with fail
      refine (reverse_any hQ (by have := ZP.out; omega)).mono ?_
      rintro e x1 ⟨rfl, hQa, hg1⟩
      have hTa := Own.kept hT hg1 HAP.out.2
      have hy1 : Ext w5 x1 := Ext.grown hyz hg1 hQ hbq
      clear hT hQ hyz hez hg1
      go_wp2_with fail
      refine (reverse_any hTa (by have := ZS.out; omega)).mono ?_
      rintro e x2 ⟨rfl, hTb, hg2⟩
      have hQb := Own.kept hQa hg2 HAP.out.1
      have hy2 : Ext w5 x2 := Ext.grown hy1 hg2 hTa hbt
      clear hQa hTa hy1 hg2
      go_wp2_with fail
      refine (all_large (OwnI.ints hQb) (OwnI.ints hTb) HBG.out).mono ?_
      rintro e x3 ⟨rfl, he3⟩
      have hend := hxw.trans (hy2.trans he3)
      clear hQb hTb
      go_wp2_with fail
      go_ret
      exact ⟨rfl, hend⟩
  · have hn4 : n ≤ 4096 := by omega
    have hm4 : m ≤ 4096 := by omega
    have HA1 := Lib.hid (all_ok (HP.out.ext hxw) (HS.out.ext hxw) hn4 hm4)
    clear hbig
    go_wp2_with fail
    refine HA1.out.mono ?_
    rintro e w5 ⟨C, n3, c3, rfl, hC, he5⟩
    have HN5 : Hid (n3 ≤ 4611686018427387904) := by
      have h1 := hC.ints.len
      have h2 : (allP p s).length ≤ s.length + 1 := by unfold allP; exact posl_len _ _ _
      rw [hsl.out] at h2
      exact Lib.hid (by omega)
    have hb2 := hb2.ext he5
    have hb3 := hb3.ext he5
    have hxw := hxw.trans he5
    clear k0 k1
    have k0 := hb2.cell 0
    have k1 := hb3.cell 0
    simp only [List.getElem?_toArray, List.getElem?_cons_zero] at k0 k1
    go_wp2_with fail
    go_region_held3 (fun w' => w'.cell? ⟨w.heap.size, 0, none⟩ = some (.slice A n c) ∧ w'.cell? ⟨w.heap.size + 1, 0, none⟩ = some (.slice B m d)) (first | go_keep | (exact ⟨Ext.cell (by assumption) (by first | assumption | exact And.left (by assumption)), Ext.cell (by assumption) (by first | assumption | exact And.right (by assumption))⟩)) (first
      | (go_at_call 11
         first
           | (refine (clone_ok (A := A) (n := n) (c := c) (l := p) (HP.out.ext (by first | exact hxw.to_drew | exact hxw.to_drew.trans (by assumption))) HAA.out (by have := ZP.out; omega)).mono ?_
              rintro e wa ⟨Q1, f1, rfl, hQ1, nQ1, hea⟩)
           | (refine (clone_ok (A := B) (n := m) (c := d) (l := s) (HS.out.ext (by first | exact hxw.to_drew | exact hxw.to_drew.trans (by assumption))) HBB.out (by have := ZS.out; omega)).mono ?_
              rintro e wb ⟨T1, g1, rfl, hT1, nT1, heb⟩)))
    · have hQ := hQ1.ext heb
      have hT := hT1
      have hez := hea.trans heb
      have hap := apart_of hQ1 hT1 (Nat.le_refl _)
      have hbt := hea.hsize
      have hbq := Nat.le_refl w5.heap.size
      have hyz : Ext w5 wb := (Ext.drew w5).trans hez
      have HAP := Lib.hid hap
      clear hQ1 hT1 hea heb hap
      go_wp2_with fail
      refine (reverse_any hQ (by have := ZP.out; omega)).mono ?_
      rintro e x1 ⟨rfl, hQa, hg1⟩
      have hTa := Own.kept hT hg1 HAP.out.2
      have hy1 : Ext w5 x1 := Ext.grown hyz hg1 hQ hbq
      clear hT hQ hyz hez hg1
      go_wp2_with fail
      refine (reverse_any hTa (by have := ZS.out; omega)).mono ?_
      rintro e x2 ⟨rfl, hTb, hg2⟩
      have hQb := Own.kept hQa hg2 HAP.out.1
      have hy2 : Ext w5 x2 := Ext.grown hy1 hg2 hTa hbt
      clear hQa hTa hy1 hg2
      go_wp2_with fail
      refine (all_ok (OwnI.ints hQb) (OwnI.ints hTb) hn4 hm4).mono ?_
      rintro e x3 ⟨D1, n5, e5, rfl, hD, he3⟩
      have hlen5 := hD.ints.len
      have hlr : (allP p.reverse s.reverse).length = (allP p s).length := by
        have := congrArg List.length (all_rev (p := p) (s := s))
        simpa using this
      rw [hlr, hC.ints.len] at hlen5
      subst hlen5
      have hy3 := hy2.trans he3
      have hbD := hy2.hsize
      have HLR := Lib.hid hlr
      clear hQb hTb he3 hlr
      go_wp2_with fail
      refine (reverse_any hD (by have := hC.ints.nmax; have := hC.ints.ncap; have := HN5.out; omega)).mono ?_
      rintro e x4 ⟨rfl, hDr, hg4⟩
      have hy4 : Ext w5 x4 := Ext.grown hy3 hg4 hD hbD
      have k2 := hy4.cell k0
      have k3 := hy4.cell k1
      have HG : Hid (∀ k, k < n3 → (0 ≤ gI (allP p s) k ∧ gI (allP p s) k ≤ 4096) ∧ (0 ≤ gI (allP p.reverse s.reverse).reverse k ∧ gI (allP p.reverse s.reverse).reverse k ≤ 4096) ∧ gI (allP p s) k + n = m - gI (allP p.reverse s.reverse).reverse k) := by
        refine Lib.hid (fun k hk => ?_)
        have hk' : k < (allP p s).length := by rw [hC.ints.len]; exact hk
        have h1 := allP_bd hk'
        have h2 := all_rev_get hk'
        rw [hpl.out, hsl.out] at h1 h2
        omega
      have hCi := hC.ints.ext hy4
      have hDi := hDr.ints
      have hend := hxw.trans hy4
      clear hD hDr hg4 hy3 hC
      go_wp2_with fail
      refine (eqf_ok k2 k3 hn4 hm4 hCi hDi HG).mono ?_
      rintro e x5 ⟨rfl, rfl⟩
      go_wp2_with fail
      go_ret
      exact ⟨rfl, hend⟩
end Go.Proofs.Ytgpagfbmbnlcpaa
