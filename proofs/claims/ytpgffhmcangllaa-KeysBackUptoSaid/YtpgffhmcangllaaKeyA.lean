/-
  The walk of keys.All.
-/
import Derived.Test.YtpgffhmcangllaaKeyV
import Derived.Test.YtpgffhmcangllaaLibA
namespace Go.Proofs.Ytpgffhmcangllaa
open Go.RowKit
set_option linter.unusedVariables false
set_option linter.unusedSimpArgs false

/-- Commands, what is left, how many keys were wrong. -/
structure Al where
  out : List Cm
  p : Pt
  wrong : Nat
def stepA (a : Al) (k : Int) : Al :=
  ⟨if (takeK a.p k).how = 2 then a.out ++ [(takeK a.p k).c] else a.out, (takeK a.p k).p, if (takeK a.p k).how = 3 then a.wrong + 1 else a.wrong⟩
def foldA (a : Al) (l : List Int) : Al := l.foldl stepA a
def allA (l : List Int) : Al := foldA ⟨[], Pt.zero, 0⟩ l
theorem foldA_app (a : Al) (l m : List Int) : foldA a (l ++ m) = foldA (foldA a l) m := by unfold foldA; rw [List.foldl_append]
theorem allA_snoc {l : List Int} {j : Nat} (h : j < l.length) : allA (l.take (j + 1)) = stepA (allA (l.take j)) (gI l j) := by
  unfold allA
  rw [List.take_succ_eq_append_getElem h, foldA_app]
  simp [foldA, gI, List.getElem?_eq_getElem h]
theorem fold_ok : ∀ (l : List Int) (a : Al), chkB a.p = true → chkB (foldA a l).p = true ∧ (foldA a l).out.length + (foldA a l).wrong ≤ a.out.length + a.wrong + l.length ∧ a.wrong ≤ (foldA a l).wrong ∧ ∃ m, (foldA a l).out = a.out ++ m
  | [], a, h => ⟨h, by simp [foldA], Nat.le_refl _, [], by simp [foldA]⟩
  | k :: l, a, h => by
    have h1 := (take_keeps (k := k) h).1
    obtain ⟨k1, k2, k3, m, k4⟩ := fold_ok l (stepA a k) h1
    have e : foldA a (k :: l) = foldA (stepA a k) l := rfl
    rw [e]
    refine ⟨k1, ?_, ?_, ?_⟩
    · have : (stepA a k).out.length + (stepA a k).wrong ≤ a.out.length + a.wrong + 1 := by
        unfold stepA
        simp only
        split
        · rename_i h2; rw [if_neg (by omega)]; simp; omega
        · split <;> omega
      simp only [List.length_cons]
      omega
    · have : a.wrong ≤ (stepA a k).wrong := by
        unfold stepA
        simp only
        split <;> omega
      omega
    · rw [k4]
      unfold stepA
      simp only
      split
      · exact ⟨[(takeK a.p k).c] ++ m, by simp⟩
      · exact ⟨m, rfl⟩
theorem all_ok' (l : List Int) : chkB (allA l).p = true ∧ (allA l).out.length + (allA l).wrong ≤ l.length := by
  obtain ⟨h1, h2, _⟩ := fold_ok l ⟨[], Pt.zero, 0⟩ zero_ok
  exact ⟨h1, by unfold allA; simpa using h2⟩

def cmC (c : Cm) : List Value := [.int .i64 c.count, .int .i64 c.reg, .int .i64 c.op, .int .i64 c.verb, .int .i64 c.arg]
def rowC (l : List Cm) : List Value := l.flatMap cmC
theorem rowC_snoc (l : List Cm) (c : Cm) : rowC (l ++ [c]) = rowC l ++ cmC c := by simp [rowC]
theorem info_cmd : (Try.prog.info? 32).map (fun i => (i.zero, i.size, i.bytes)) = some (some (.agg #[.int .i64 0, .int .i64 0, .int .i64 0, .int .i64 0, .int .i64 0]), 5, 40) := by kernel_rfl
theorem one5 {a b c d e : Int} : ∀ u ∈ (#[.int .i64 a, .int .i64 b, .int .i64 c, .int .i64 d, .int .i64 e] : Array Value).toList, u.oneCell' = true := by
  intro u hu
  simp at hu
  rcases hu with rfl | rfl | rfl | rfl | rfl <;> rfl
def PtAt (w : World) (g : Nat) (p : Pt) : Prop := Blk w g 25 #[.int .i64 p.first, .int .i64 p.reg, .int .i64 p.op, .int .i64 p.second, .int .i64 p.wait]

set_option maxRecDepth 20000 in
set_option maxHeartbeats 8000000 in
theorem all_ok {l : List Int} {A : Option Addr} {n c : Nat} {w : World} (hl : Ints w A n c l) (hn : n ≤ 4194304) :
    Calls Try.prog 6 #[.slice A n c] w fun e w' => ∃ O q d, e = .returned (.tuple #[.slice O q d, ptV (allA l).p, .int .i64 (allA l).wrong]) ∧ Rd w' 5 O q d (rowC (allA l).out) ∧ Ext w w' := by
  obtain ⟨i0, hi, hz0, hz1, hz2⟩ := info_parts info_cmd
  have hlen := Lib.hid hl.len
  have hb3 := (Blk.new w 25 #[.int .i64 0, .int .i64 0, .int .i64 0, .int .i64 0, .int .i64 0]).ext (Ext.alloc _ (.cells #[.int .i64 0, .int .i64 0, .int .i64 0, .int .i64 0, .int .i64 0] 25))
  have hb6 := Blk.new (w.alloc (.cells #[.int .i64 0, .int .i64 0, .int .i64 0, .int .i64 0, .int .i64 0] 25)) 25 #[.int .i64 0, .int .i64 0, .int .i64 0, .int .i64 0, .int .i64 0]
  rw [show (w.alloc (.cells #[.int .i64 0, .int .i64 0, .int .i64 0, .int .i64 0, .int .i64 0] 25)).heap.size = w.heap.size + 1 by simp] at hb6
  have hx := (Ext.alloc w (.cells #[.int .i64 0, .int .i64 0, .int .i64 0, .int .i64 0, .int .i64 0] 25)).to_alloc (.cells #[.int .i64 0, .int .i64 0, .int .i64 0, .int .i64 0, .int .i64 0] 25)
  have e0 : allA (l.take 0) = ⟨[], Pt.zero, 0⟩ := by simp [allA, foldA]
  have HI := Lib.hid hi
  clear hi
  go_enter Try.func6, Try.ntmps6
  go_wp2_with fail
  go_loopw [5, 7, 16] (fun v z iv wr => ∃ (j q d : Nat) (O : Option Addr), j ≤ n ∧ v = .slice O q d ∧ z = .int .i64 (allA (l.take j)).wrong ∧ iv = .int .i64 j ∧ Own wr (w.heap.size + 2) 32 5 O q d (rowC (allA (l.take j)).out) ∧
    Hid (PtAt wr w.heap.size Pt.zero) ∧ Hid (PtAt wr (w.heap.size + 1) (allA (l.take j)).p) ∧ Ext w wr) (fun _ _ iv _ => n - (intOf iv).toNat)
  case atStart => exact ⟨0, 0, 0, none, by omega, rfl, by rw [e0]; rfl, rfl, by rw [e0]; exact Own.nil _ _ _ _, Lib.hid hb3, Lib.hid (by rw [e0]; exact hb6), hx⟩
  case round =>
    clear hb3 hb6 hx e0
    obtain ⟨j, q, d, O, hj, rfl, rfl, rfl, hown, H3, H6, he⟩ := hrel
    by_cases hlt : j < n
    · obtain ⟨ad, rfl, hc⟩ := hl.at_ hlt
      have d1 := he.cell (hc j hlt)
      have hjl : j < l.length := by rw [hlen.out]; exact hlt
      have hsn := allA_snoc hjl
      have hok := all_ok' (l.take j)
      have hlo := hok.2
      rw [List.length_take] at hlo
      have HT := Lib.hid (take_ok (k := gI l j) wr hok.1)
      have Hsn : Hid (allA (l.take (j + 1)) = stepA (allA (l.take j)) (gI l j)) := Lib.hid hsn
      have hql : 5 * (allA (l.take j)).out.length = q * 5 := by
        have h1 := (Own.rd hown).len
        have h2 : ∀ m : List Cm, (rowC m).length = 5 * m.length := fun m => by
          induction m with
          | nil => rfl
          | cons x m ih => have : rowC (x :: m) = cmC x ++ rowC m := rfl
                           rw [this, List.length_append, ih]; simp [cmC]; omega
        rw [h2] at h1; exact h1
      have hq : q ≤ 4194304 := by omega
      have hwr0 : (allA (l.take j)).wrong ≤ 4194304 := by omega
      unfold PtAt at H6
      unfold ptV tkV ptV cmV at HT
      rcases hA : allA (l.take j) with ⟨out, p0, wrong⟩
      rw [hA] at hown H6 HT Hsn hql hwr0
      simp only at hown H6 HT hql hwr0
      obtain ⟨f0, f1, f2, f3, f4⟩ := p0
      rcases ht : takeK ⟨f0, f1, f2, f3, f4⟩ (gI l j) with ⟨tp, tc, th⟩
      unfold stepA at Hsn
      simp only at Hsn
      rw [ht] at HT Hsn
      obtain ⟨p0, p1, p2, p3, p4⟩ := tp
      obtain ⟨u0, u1, u2, u3, u4⟩ := tc
      simp only at HT Hsn H6
      obtain ⟨⟨c0, c1, c2, c3, c4⟩, ⟨g0, g1, g2, g3, g4⟩⟩ := H6.out.five
      clear hsn hok hlo hA ht hql hc
      go_wp2_with fail
      refine HT.out.mono ?_
      rintro e w2 ⟨rfl, he2⟩
      have HD6 := Lib.hid (H6.out.ext he2)
      have HD3 := Lib.hid (Blk.ext H3.out he2)
      have hown2 := Own.ext hown he2
      have HEX := Lib.hid (he.trans he2)
      obtain ⟨⟨x0, x1, x2, x3, x4⟩, ⟨y0, y1, y2, y3, y4⟩⟩ := (HD6.out.ext ((Ext.alloc w2 (.cells #[.int .i64 p0, .int .i64 p1, .int .i64 p2, .int .i64 p3, .int .i64 p4] 25)).to_alloc (.cells #[.int .i64 u0, .int .i64 u1, .int .i64 u2, .int .i64 u3, .int .i64 u4] 32))).five
      have hlt2 := HD6.out.lt
      have n1 : ¬ w.heap.size + 1 = w2.heap.size := by omega
      have n2 : ¬ w2.heap.size = w.heap.size + 1 := by omega
      have n3 : ¬ w.heap.size = w2.heap.size := by omega
      have n4 : ¬ w2.heap.size + 1 = w.heap.size := by omega
      have n5 : ¬ w2.heap.size = w.heap.size := by omega
      have n6 : ¬ w.heap.size = w2.heap.size + 1 := by omega
      clear HT H6 H3 hown he he2 d1 c0 c1 c2 c3 c4 g0 g1 g2 g3 g4 hlt2
      iterate 46 (first | go_values | go_skip | go_guarded | go_step | go_upon | go_back | (simp only [Int.not_lt, Int.not_le] at *; go_simp))
      have ea := (Ext.alloc w2 (.cells #[.int .i64 p0, .int .i64 p1, .int .i64 p2, .int .i64 p3, .int .i64 p4] 25)).to_alloc (.cells #[.int .i64 u0, .int .i64 u1, .int .i64 u2, .int .i64 u3, .int .i64 u4] 32)
      have hbC : Blk ((w2.alloc (.cells #[.int .i64 p0, .int .i64 p1, .int .i64 p2, .int .i64 p3, .int .i64 p4] 25)).alloc (.cells #[.int .i64 u0, .int .i64 u1, .int .i64 u2, .int .i64 u3, .int .i64 u4] 32)) (w2.heap.size + 1) 32 #[.int .i64 u0, .int .i64 u1, .int .i64 u2, .int .i64 u3, .int .i64 u4] := by
        have := Blk.new (w2.alloc (.cells #[.int .i64 p0, .int .i64 p1, .int .i64 p2, .int .i64 p3, .int .i64 p4] 25)) 32 #[.int .i64 u0, .int .i64 u1, .int .i64 u2, .int .i64 u3, .int .i64 u4]
        simpa using this
      have hl6 := HD6.out.lt
      have hb6 := set5 (.int .i64 p0) (.int .i64 p1) (.int .i64 p2) (.int .i64 p3) (.int .i64 p4) (HD6.out.ext ea)
      have hb3 := set5_other (.int .i64 p0) (.int .i64 p1) (.int .i64 p2) (.int .i64 p3) (.int .i64 p4) (Blk.ext HD3.out ea) (show w.heap.size + 1 ≠ w.heap.size by omega)
      have hbc := set5_other (.int .i64 p0) (.int .i64 p1) (.int .i64 p2) (.int .i64 p3) (.int .i64 p4) hbC (show w.heap.size + 1 ≠ w2.heap.size + 1 by omega)
      have hE := set5_ext (.int .i64 p0) (.int .i64 p1) (.int .i64 p2) (.int .i64 p3) (.int .i64 p4) (HEX.out.trans ea) (Nat.le_succ w.heap.size)
      have hO := (Own.setCell (Own.setCell (Own.setCell (Own.setCell (Own.setCell (Own.ext hown2 ea) (p := ⟨w.heap.size + 1, 0, none⟩) (Nat.lt_succ_self _) (.int .i64 p0)) (p := ⟨w.heap.size + 1, 1, none⟩) (Nat.lt_succ_self _) (.int .i64 p1)) (p := ⟨w.heap.size + 1, 2, none⟩) (Nat.lt_succ_self _) (.int .i64 p2)) (p := ⟨w.heap.size + 1, 3, none⟩) (Nat.lt_succ_self _) (.int .i64 p3)) (p := ⟨w.heap.size + 1, 4, none⟩) (Nat.lt_succ_self _) (.int .i64 p4))
      clear HD6 HD3 HEX hown2 x0 x1 x2 x3 x4 y0 y1 y2 y3 y4 n1 n2 n3 n4 n5 n6 ea hbC hl6
      revert hb6 hb3 hbc hE hO
      generalize (((((((w2.alloc (.cells #[.int .i64 p0, .int .i64 p1, .int .i64 p2, .int .i64 p3, .int .i64 p4] 25)).alloc (.cells #[.int .i64 u0, .int .i64 u1, .int .i64 u2, .int .i64 u3, .int .i64 u4] 32)).setCell ⟨w.heap.size + 1, 0, none⟩ (.int .i64 p0)).setCell ⟨w.heap.size + 1, 1, none⟩ (.int .i64 p1)).setCell ⟨w.heap.size + 1, 2, none⟩ (.int .i64 p2)).setCell ⟨w.heap.size + 1, 3, none⟩ (.int .i64 p3)).setCell ⟨w.heap.size + 1, 4, none⟩ (.int .i64 p4)) = W
      intro hb6 hb3 hbc hE hO
      have Hb6 := Lib.hid hb6
      have Hb3 := Lib.hid hb3
      have HE := Lib.hid hE
      have HO := Lib.hid hO
      obtain ⟨⟨v0, v1, v2, v3, v4⟩, _⟩ := hbc.five
      have hl6 := hb6.lt
      clear hb6 hb3 hbc hO
      by_cases h2 : th = 2
      · subst h2
        have hown := HO.out
        have hi := HI.out
        go_wp2_with (at_builtin; refine wpList_push rfl (.tmp 32) (.tmp 34) 23 rfl w (w.heap.size + 2) 32 i0 _ 5 40 Try.underlying23 hi hz0 hz1 hz2 rfl (by decide) O q d _ rfl hown #[.int .i64 u0, .int .i64 u1, .int .i64 u2, .int .i64 u3, .int .i64 u4] rfl ?_ rfl ?_ ?_ hE (by omega) (by omega) ?_)
        · exact ⟨rfl, rfl, rfl, rfl, rfl⟩
        · unfold maxLen; omega
        · omega
        · intro O2 d2 w5 hO2 hgr hor hx5
          have hn6 : (Value.slice O q d).ownBlock ≠ some (w.heap.size + 1) := fun e => by have := (Own.blk HO.out _ e).1; omega
          have hn3 : (Value.slice O q d).ownBlock ≠ some w.heap.size := fun e => by have := (Own.blk HO.out _ e).1; omega
          have K6 := Lib.hid (Hb6.out.grown hgr (fun e => hn6 e.symm))
          have K3 := Lib.hid (Blk.grown Hb3.out hgr (fun e => hn3 e.symm))
          have HO5 := Lib.hid hO2
          clear hO2 hgr hor hown hi hE v0 v1 v2 v3 v4 hn6 hn3 Hb6 Hb3 HE HO
          go_wp2_with fail
          go_roundw
          case rel => exact ⟨j + 1, q + 1, d2, O2, by omega, rfl, by rw [Hsn.out]; simp, by go_num, by rw [Hsn.out]; simp only [if_true]; rw [rowC_snoc]; exact HO5.out, K3, Lib.hid (by rw [Hsn.out]; exact K6.out), hx5⟩
          case measure => simp [intOf]; omega
      · have h2b : (th == 2) = false := by simpa using h2
        by_cases h3 : th = 3
        · subst h3
          clear v0 v1 v2 v3 v4
          go_wp2_with fail
          go_roundw
          case rel => exact ⟨j + 1, q, d, O, by omega, rfl, by rw [Hsn.out]; simp only [if_true]; go_num, by go_num, by rw [Hsn.out]; simpa using HO.out, Hb3, Lib.hid (by rw [Hsn.out]; exact Hb6.out), HE.out⟩
          case measure => simp [intOf]; omega
        · have h3b : (th == 3) = false := by simpa using h3
          clear v0 v1 v2 v3 v4
          go_wp2_with fail
          go_roundw
          case rel => exact ⟨j + 1, q, d, O, by omega, rfl, by rw [Hsn.out]; simp [h3], by go_num, by rw [Hsn.out]; simp only [if_neg h2]; exact HO.out, Hb3, Lib.hid (by rw [Hsn.out]; exact Hb6.out), HE.out⟩
          case measure => simp [intOf]; omega
    · obtain rfl : j = n := by omega
      have htk : l.take j = l := List.take_of_length_le (by rw [hlen.out]; exact Nat.le_refl _)
      rw [htk] at hown H6 ⊢
      unfold PtAt at H6 H3
      rcases hA : allA l with ⟨out, ⟨p0, p1, p2, p3, p4⟩, wrong⟩
      rw [hA] at hown H6
      have HA := Lib.hid hA
      simp only at hown H6 ⊢
      obtain ⟨⟨c0, c1, c2, c3, c4⟩, _⟩ := H6.out.five
      obtain ⟨⟨x0, x1, x2, x3, x4⟩, ⟨y0, y1, y2, y3, y4⟩⟩ := H3.out.five
      have hB := set5 (.int .i64 p0) (.int .i64 p1) (.int .i64 p2) (.int .i64 p3) (.int .i64 p4) ((show Blk wr.drew w.heap.size 25 _ from H3.out))
      have hend := set5_ext (.int .i64 p0) (.int .i64 p1) (.int .i64 p2) (.int .i64 p3) (.int .i64 p4) he.to_drew (Nat.le_refl w.heap.size)
      have hl3 := H3.out.lt
      have hr := Lib.hid (Own.rd ((Own.setCell (Own.setCell (Own.setCell (Own.setCell (Own.setCell (Own.ext hown (Ext.drew wr)) (p := ⟨w.heap.size, 0, none⟩) (show w.heap.size < w.heap.size + 2 by omega) (.int .i64 p0)) (p := ⟨w.heap.size, 1, none⟩) (show w.heap.size < w.heap.size + 2 by omega) (.int .i64 p1)) (p := ⟨w.heap.size, 2, none⟩) (show w.heap.size < w.heap.size + 2 by omega) (.int .i64 p2)) (p := ⟨w.heap.size, 3, none⟩) (show w.heap.size < w.heap.size + 2 by omega) (.int .i64 p3)) (p := ⟨w.heap.size, 4, none⟩) (show w.heap.size < w.heap.size + 2 by omega) (.int .i64 p4))))
      obtain ⟨⟨e0, e1, e2, e3, e4⟩, _⟩ := hB.five
      have m0 : (wr.setCell ⟨w.heap.size, 0, none⟩ (.int .i64 p0)).cell? ⟨w.heap.size, 0, none⟩ = some (.int .i64 p0) := by have := (Blk.set_ H3.out 0 (.int .i64 p0)).cell 0; simpa using this
      have m1 : ((wr.setCell ⟨w.heap.size, 0, none⟩ (.int .i64 p0)).setCell ⟨w.heap.size, 1, none⟩ (.int .i64 p1)).cell? ⟨w.heap.size, 1, none⟩ = some (.int .i64 p1) := by have := (Blk.set_ (Blk.set_ H3.out 0 (.int .i64 p0)) 1 (.int .i64 p1)).cell 1; simpa using this
      have m2 : (((wr.setCell ⟨w.heap.size, 0, none⟩ (.int .i64 p0)).setCell ⟨w.heap.size, 1, none⟩ (.int .i64 p1)).setCell ⟨w.heap.size, 2, none⟩ (.int .i64 p2)).cell? ⟨w.heap.size, 2, none⟩ = some (.int .i64 p2) := by have := (Blk.set_ (Blk.set_ (Blk.set_ H3.out 0 (.int .i64 p0)) 1 (.int .i64 p1)) 2 (.int .i64 p2)).cell 2; simpa using this
      have m3 : ((((wr.setCell ⟨w.heap.size, 0, none⟩ (.int .i64 p0)).setCell ⟨w.heap.size, 1, none⟩ (.int .i64 p1)).setCell ⟨w.heap.size, 2, none⟩ (.int .i64 p2)).setCell ⟨w.heap.size, 3, none⟩ (.int .i64 p3)).cell? ⟨w.heap.size, 3, none⟩ = some (.int .i64 p3) := by have := (Blk.set_ (Blk.set_ (Blk.set_ (Blk.set_ H3.out 0 (.int .i64 p0)) 1 (.int .i64 p1)) 2 (.int .i64 p2)) 3 (.int .i64 p3)).cell 3; simpa using this
      have m4 : (((((wr.setCell ⟨w.heap.size, 0, none⟩ (.int .i64 p0)).setCell ⟨w.heap.size, 1, none⟩ (.int .i64 p1)).setCell ⟨w.heap.size, 2, none⟩ (.int .i64 p2)).setCell ⟨w.heap.size, 3, none⟩ (.int .i64 p3)).setCell ⟨w.heap.size, 4, none⟩ (.int .i64 p4)).cell? ⟨w.heap.size, 4, none⟩ = some (.int .i64 p4) := by have := (Blk.set_ (Blk.set_ (Blk.set_ (Blk.set_ (Blk.set_ H3.out 0 (.int .i64 p0)) 1 (.int .i64 p1)) 2 (.int .i64 p2)) 3 (.int .i64 p3)) 4 (.int .i64 p4)).cell 4; simpa using this
      clear hB hown hA H6 H3 he
      go_wp2_with fail
      go_region_with fail
      all_goals
        go_wp2_with fail
        refine bodyPost_ret (by simp [results, Try.results6, go_sem, e0, e1, e2, e3, e4, m0, m1, m2, m3, m4]; try rfl) rfl ?_
        exact ⟨O, q, d, by rw [HA.out]; rfl, by rw [HA.out]; exact hr.out, hend⟩
end Go.Proofs.Ytpgffhmcangllaa
