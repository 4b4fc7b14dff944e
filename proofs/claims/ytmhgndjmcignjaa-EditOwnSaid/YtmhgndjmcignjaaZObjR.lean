/-
  object.run: the walk.
-/
import Derived.Test.YtmhgndjmcignjaaZObjM
import Derived.Test.YtmhgndjmcignjaaZJ4
import Derived.IntWalk

namespace Go.Proofs.Ytmhgndjmcignjaa
open Go.RowKit
set_option linter.unusedVariables false
set_option linter.unusedSimpArgs false

/-- A write to another block. -/
theorem Blk.keepCell2 {w : World} {g t : Nat} {cs : Array Value} (h : Blk w g t cs) {p : Addr} (hp : p.block ≠ g) (u : Value) : Blk (w.setCell p u) g t cs := by
  unfold Blk at h ⊢
  unfold World.setCell
  simp only [Array.getElem?_modify, hp, if_false, h]

theorem wkind_ok2 (c : Int) (big : Bool) (w : World) : Calls Try.prog 49 #[.int .i64 c, .bool big] w fun e w' => e = .returned (.int .i64 (kindF c big)) ∧ w = w' :=
  (wkind_ok c big w).mono fun _ _ ⟨h1, h2⟩ => ⟨h1, h2.symm⟩

/-- A number that lies in a cell. -/
def numAt (w : World) (p : Addr) : Nat := match w.cell? p with | some v => (intOf v).toNat | none => 0
theorem numAt_eq {w : World} {p : Addr} {x : Nat} (h : w.cell? p = some (.int .i64 x)) : numAt w p = x := by unfold numAt; rw [h]; simp [intOf]

set_option maxRecDepth 20000 in
set_option maxHeartbeats 2000000 in
theorem run_ok {l : List Int} {A : Option Addr} {n c : Nat} {k : Nat} {big : Bool} {w : World} (hl : Ints w A n c l) (hn : n ≤ 4096) (hk : k < n) :
    Calls Try.prog 58 #[.slice A n c, .int .i64 k, .bool big] w fun e w' => e = .returned (.agg #[.int .i64 (runL l big (kindAt l big k) k), .int .i64 (runR l big (kindAt l big k) k)]) ∧ Ext w w' := by
  have hnc := hl.ncap
  have hcm := hl.nmax
  have hlen := Lib.hid hl.len
  unfold maxLen at hcm
  obtain ⟨a1, rfl, hc⟩ := hl.at_ hk
  have HC := Lib.hid hc
  have hx0 : Ext w ((w.alloc (.cells #[.int .i64 0, .int .i64 0] 92)).alloc (.cells #[.int .i64 k, .int .i64 k] 92)) := (Ext.alloc _ _).to_alloc _
  have d0 := hx0.cell (hc k hk)
  have hb1 := (Blk.new w 92 #[.int .i64 0, .int .i64 0]).ext (Ext.alloc _ (.cells #[.int .i64 k, .int .i64 k] 92))
  have hb2 : Blk ((w.alloc (.cells #[.int .i64 0, .int .i64 0] 92)).alloc (.cells #[.int .i64 k, .int .i64 k] 92)) (w.heap.size + 1) 92 #[.int .i64 k, .int .i64 k] := by
    simpa using Blk.new (w.alloc (.cells #[.int .i64 0, .int .i64 0] 92)) 92 #[.int .i64 k, .int .i64 k]
  have hkk : Hid (kindAt l big k = kindF (gI l k) big) := kindAt_in (by rw [hlen.out]; exact hk)
  have HIN : Hid (∀ j : Nat, j < n → kindAt l big j = kindF (gI l j) big) := Lib.hid (fun j hj => kindAt_in (by rw [hlen.out]; exact hj))
  clear hc
  go_enter Try.func58, Try.ntmps58
  go_wp2_with fail
  refine (wkind_ok2 _ _ _).mono ?_
  rintro e w1 ⟨rfl, rfl⟩
  clear d0
  go_wp2_with fail
  go_loopw [] (fun wr => ∃ f : Nat, f ≤ k ∧ Hid (∀ x : Nat, f ≤ x → x < k → kindAt l big x = kindAt l big k) ∧ Blk wr w.heap.size 92 #[.int .i64 0, .int .i64 0] ∧ Blk wr (w.heap.size + 1) 92 #[.int .i64 f, .int .i64 k] ∧ Ext w wr) (fun wr => numAt wr ⟨w.heap.size + 1, 0, none⟩)
  case atStart => exact ⟨k, Nat.le_refl _, fun x h1 h2 => absurd h2 (by omega), hb1, hb2, hx0⟩
  case round =>
    clear hb1 hb2 hx0
    obtain ⟨f, hf, hall, hb1, hb2, he⟩ := hrel
    have c0 := hb2.cell 0
    have c1 := hb2.cell 1
    have f0 := hb2.frozen 0
    have f1 := hb2.frozen 1
    simp only [List.getElem?_toArray, List.getElem?_cons_zero, List.getElem?_cons_succ] at c0 c1
    have HM := Lib.hid (numAt_eq c0)
    rcases Nat.eq_zero_or_pos f with h0 | h0
    · have HL : Hid (f = 0 ∨ kindAt l big ((f : Int) - 1) ≠ kindAt l big k) := Lib.hid (.inl h0)
      subst h0
      have c0z : wr.cell? ⟨w.heap.size + 1, 0, none⟩ = some (.int .i64 0) := c0
      clear c0
      have c0 := c0z
      clear c0z
      have HFL : Hid (runL l big (kindAt l big k) k = 0) := Lib.hid (runL_eq hf hall.out HL.out)
      go_wp2_with fail
      clear c0 c1 f0 f1
      go_loopw [] (fun wr => ∃ t : Nat, k ≤ t ∧ t ≤ n ∧ Hid (∀ x : Nat, k ≤ x → x < t → kindAt l big x = kindAt l big k) ∧ Blk wr w.heap.size 92 #[.int .i64 0, .int .i64 0] ∧ Blk wr (w.heap.size + 1) 92 #[.int .i64 ((0 : Nat) : Int), .int .i64 t] ∧ Ext w wr) (fun wr => n - numAt wr ⟨w.heap.size + 1, 1, none⟩)
      case atStart => exact ⟨k, Nat.le_refl _, by omega, fun x h1 h2 => absurd h2 (by omega), hb1, hb2, he⟩
      case round =>
        clear hb1 hb2 he
        obtain ⟨t, ht1, ht2, hall2, hb1, hb2, he⟩ := hrel
        have c0 := hb2.cell 0
        have c1 := hb2.cell 1
        have f1 := hb2.frozen 1
        simp only [List.getElem?_toArray, List.getElem?_cons_zero, List.getElem?_cons_succ] at c0 c1
        have HM := Lib.hid (numAt_eq c1)
        by_cases hlt : t < n
        · have d1 := he.cell (HC.out t hlt)
          by_cases heq : kindF (gI l t) big = kindF (gI l k) big
          · have b1 : (kindF (gI l t) big == kindF (gI l k) big) = true := by simpa using heq
            have HQ : Hid (kindAt l big t = kindAt l big k) := Lib.hid (by rw [HIN.out t hlt, hkk.out]; exact heq)
            clear heq
            go_wp2_with fail
            refine (wkind_ok2 _ _ _).mono ?_
            rintro e w2 ⟨rfl, rfl⟩
            go_wp2_with fail
            have hb3 : Blk (wr.setCell ⟨w.heap.size + 1, 1, none⟩ (.int .i64 ((t : Int) + 1))) (w.heap.size + 1) 92 #[.int .i64 ((0 : Nat) : Int), .int .i64 ((t + 1 : Nat) : Int)] := by
              simpa using hb2.set_ 1 (.int .i64 ((t : Int) + 1))
            have c2 := hb3.cell 1
            simp only [List.getElem?_toArray, List.getElem?_cons_zero, List.getElem?_cons_succ] at c2
            refine ⟨⟨t + 1, by omega, by omega, fun x h1 h2 => ?_, hb1.keepCell2 (by simp) _, hb3, he.setCell (by simp) _⟩, ?_⟩
            · rcases Nat.lt_or_ge x t with h3 | h3
              · exact hall2.out x h1 h3
              · obtain rfl : x = t := by omega
                exact HQ.out
            · rw [numAt_eq c2, HM.out]; omega
          · have b1 : (kindF (gI l t) big == kindF (gI l k) big) = false := by simpa using heq
            have HQ : Hid (kindAt l big t ≠ kindAt l big k) := Lib.hid (by rw [HIN.out t hlt, hkk.out]; exact heq)
            clear heq
            have HR : Hid (runR l big (kindAt l big k) k = t) := Lib.hid (runR_eq (by rw [hkk.out]; exact (kindF_bd _ _).1) ht1 hall2.out HQ.out)
            have f2 := hb1.frozen 0
            have f3 := hb1.frozen 1
            have c4 := hb1.cell 0
            have c5 := hb1.cell 1
            simp only [List.getElem?_toArray, List.getElem?_cons_zero, List.getElem?_cons_succ] at c4 c5
            go_wp2_with fail
            refine (wkind_ok2 _ _ _).mono ?_
            rintro e w2 ⟨rfl, rfl⟩
            go_wp2_with fail
            have hbf : Blk ((wr.setCell ⟨w.heap.size, 0, none⟩ (.int .i64 0)).setCell ⟨w.heap.size, 1, none⟩ (.int .i64 t)) w.heap.size 92 #[.int .i64 0, .int .i64 t] := by
              simpa using (hb1.set_ 0 (.int .i64 0)).set_ 1 (.int .i64 t)
            have c6 := hbf.cell 0
            have c7 := hbf.cell 1
            simp only [List.getElem?_toArray, List.getElem?_cons_zero, List.getElem?_cons_succ] at c6 c7
            clear c4 c5 f2 f3 c0 c1 hbf
            rw [HFL.out, HR.out]
            refine bodyPost_ret (by simp [results, Try.results58, go_sem, c6, c7]; try rfl) rfl ?_
            exact ⟨rfl, (he.setCell (by simp) _).setCell (by simp) _⟩
        · have HQ : Hid (kindAt l big t ≠ kindAt l big k) := Lib.hid (by rw [kindAt_out (by rw [hlen.out]; omega), hkk.out]; have := (kindF_bd (gI l k) big).1; omega)
          obtain rfl : t = n := by omega
          have HR : Hid (runR l big (kindAt l big k) k = t) := Lib.hid (runR_eq (by rw [hkk.out]; exact (kindF_bd _ _).1) ht1 hall2.out HQ.out)
          have f2 := hb1.frozen 0
          have f3 := hb1.frozen 1
          have c4 := hb1.cell 0
          have c5 := hb1.cell 1
          simp only [List.getElem?_toArray, List.getElem?_cons_zero, List.getElem?_cons_succ] at c4 c5
          go_wp2_with fail
          have hbf : Blk ((wr.setCell ⟨w.heap.size, 0, none⟩ (.int .i64 0)).setCell ⟨w.heap.size, 1, none⟩ (.int .i64 t)) w.heap.size 92 #[.int .i64 0, .int .i64 t] := by
            simpa using (hb1.set_ 0 (.int .i64 0)).set_ 1 (.int .i64 t)
          have c6 := hbf.cell 0
          have c7 := hbf.cell 1
          simp only [List.getElem?_toArray, List.getElem?_cons_zero, List.getElem?_cons_succ] at c6 c7
          clear c4 c5 f2 f3 c0 c1 hbf
          rw [HFL.out, HR.out]
          refine bodyPost_ret (by simp [results, Try.results58, go_sem, c6, c7]; try rfl) rfl ?_
          exact ⟨rfl, (he.setCell (by simp) _).setCell (by simp) _⟩
    · obtain ⟨g, rfl⟩ : ∃ g, f = g + 1 := ⟨f - 1, by omega⟩
      have hgn : g < n := by omega
      have d1 := he.cell (HC.out g hgn)
      by_cases heq : kindF (gI l g) big = kindF (gI l k) big
      · have b1 : (kindF (gI l g) big == kindF (gI l k) big) = true := by simpa using heq
        have HQ : Hid (kindAt l big g = kindAt l big k) := Lib.hid (by rw [HIN.out g hgn, hkk.out]; exact heq)
        clear heq
        go_wp2_with fail
        refine (wkind_ok2 _ _ _).mono ?_
        rintro e w2 ⟨rfl, rfl⟩
        go_wp2_with fail
        have hb3 : Blk (wr.setCell ⟨w.heap.size + 1, 0, none⟩ (.int .i64 (g : Int))) (w.heap.size + 1) 92 #[.int .i64 g, .int .i64 k] := by
          simpa using hb2.set_ 0 (.int .i64 (g : Int))
        have c2 := hb3.cell 0
        simp only [List.getElem?_toArray, List.getElem?_cons_zero, List.getElem?_cons_succ] at c2
        refine ⟨⟨g, by omega, fun x h1 h2 => ?_, hb1.keepCell2 (by simp) _, hb3, he.setCell (by simp) _⟩, ?_⟩
        · rcases Nat.lt_or_ge g x with h3 | h3
          · exact hall.out x h3 h2
          · obtain rfl : x = g := by omega
            exact HQ.out
        · rw [numAt_eq c2, HM.out]; omega
      · have b1 : (kindF (gI l g) big == kindF (gI l k) big) = false := by simpa using heq
        have HL : Hid (g + 1 = 0 ∨ kindAt l big (((g + 1 : Nat) : Int) - 1) ≠ kindAt l big k) := Lib.hid (.inr (by rw [show (((g + 1 : Nat) : Int) - 1) = (g : Int) by omega, HIN.out g hgn, hkk.out]; exact heq))
        clear heq
        have HFL : Hid (runL l big (kindAt l big k) k = g + 1) := Lib.hid (runL_eq hf hall.out HL.out)
        go_wp2_with fail
        refine (wkind_ok2 _ _ _).mono ?_
        rintro e w2 ⟨rfl, rfl⟩
        go_wp2_with fail
        clear c0 c1 f0 f1
        go_loopw [] (fun wr => ∃ t : Nat, k ≤ t ∧ t ≤ n ∧ Hid (∀ x : Nat, k ≤ x → x < t → kindAt l big x = kindAt l big k) ∧ Blk wr w.heap.size 92 #[.int .i64 0, .int .i64 0] ∧ Blk wr (w.heap.size + 1) 92 #[.int .i64 ((g + 1 : Nat) : Int), .int .i64 t] ∧ Ext w wr) (fun wr => n - numAt wr ⟨w.heap.size + 1, 1, none⟩)
        case atStart => exact ⟨k, Nat.le_refl _, by omega, fun x h1 h2 => absurd h2 (by omega), hb1, hb2, he⟩
        case round =>
          clear hb1 hb2 he
          obtain ⟨t, ht1, ht2, hall2, hb1, hb2, he⟩ := hrel
          have c0 := hb2.cell 0
          have c1 := hb2.cell 1
          have f1 := hb2.frozen 1
          simp only [List.getElem?_toArray, List.getElem?_cons_zero, List.getElem?_cons_succ] at c0 c1
          have HM := Lib.hid (numAt_eq c1)
          by_cases hlt : t < n
          · have d1 := he.cell (HC.out t hlt)
            by_cases heq : kindF (gI l t) big = kindF (gI l k) big
            · have b1 : (kindF (gI l t) big == kindF (gI l k) big) = true := by simpa using heq
              have HQ : Hid (kindAt l big t = kindAt l big k) := Lib.hid (by rw [HIN.out t hlt, hkk.out]; exact heq)
              clear heq
              go_wp2_with fail
              refine (wkind_ok2 _ _ _).mono ?_
              rintro e w2 ⟨rfl, rfl⟩
              go_wp2_with fail
              have hb3 : Blk (wr.setCell ⟨w.heap.size + 1, 1, none⟩ (.int .i64 ((t : Int) + 1))) (w.heap.size + 1) 92 #[.int .i64 ((g + 1 : Nat) : Int), .int .i64 ((t + 1 : Nat) : Int)] := by
                simpa using hb2.set_ 1 (.int .i64 ((t : Int) + 1))
              have c2 := hb3.cell 1
              simp only [List.getElem?_toArray, List.getElem?_cons_zero, List.getElem?_cons_succ] at c2
              refine ⟨⟨t + 1, by omega, by omega, fun x h1 h2 => ?_, hb1.keepCell2 (by simp) _, hb3, he.setCell (by simp) _⟩, ?_⟩
              · rcases Nat.lt_or_ge x t with h3 | h3
                · exact hall2.out x h1 h3
                · obtain rfl : x = t := by omega
                  exact HQ.out
              · rw [numAt_eq c2, HM.out]; omega
            · have b1 : (kindF (gI l t) big == kindF (gI l k) big) = false := by simpa using heq
              have HQ : Hid (kindAt l big t ≠ kindAt l big k) := Lib.hid (by rw [HIN.out t hlt, hkk.out]; exact heq)
              clear heq
              have HR : Hid (runR l big (kindAt l big k) k = t) := Lib.hid (runR_eq (by rw [hkk.out]; exact (kindF_bd _ _).1) ht1 hall2.out HQ.out)
              have f2 := hb1.frozen 0
              have f3 := hb1.frozen 1
              have c4 := hb1.cell 0
              have c5 := hb1.cell 1
              simp only [List.getElem?_toArray, List.getElem?_cons_zero, List.getElem?_cons_succ] at c4 c5
              go_wp2_with fail
              refine (wkind_ok2 _ _ _).mono ?_
              rintro e w2 ⟨rfl, rfl⟩
              go_wp2_with fail
              have hbf : Blk ((wr.setCell ⟨w.heap.size, 0, none⟩ (.int .i64 ((g : Int) + 1))).setCell ⟨w.heap.size, 1, none⟩ (.int .i64 t)) w.heap.size 92 #[.int .i64 ((g : Int) + 1), .int .i64 t] := by
                simpa using (hb1.set_ 0 (.int .i64 ((g : Int) + 1))).set_ 1 (.int .i64 t)
              have c6 := hbf.cell 0
              have c7 := hbf.cell 1
              simp only [List.getElem?_toArray, List.getElem?_cons_zero, List.getElem?_cons_succ] at c6 c7
              clear c4 c5 f2 f3 c0 c1 hbf
              rw [HFL.out, HR.out]
              refine bodyPost_ret (by simp [results, Try.results58, go_sem, c6, c7]; try rfl) rfl ?_
              exact ⟨rfl, (he.setCell (by simp) _).setCell (by simp) _⟩
          · have HQ : Hid (kindAt l big t ≠ kindAt l big k) := Lib.hid (by rw [kindAt_out (by rw [hlen.out]; omega), hkk.out]; have := (kindF_bd (gI l k) big).1; omega)
            obtain rfl : t = n := by omega
            have HR : Hid (runR l big (kindAt l big k) k = t) := Lib.hid (runR_eq (by rw [hkk.out]; exact (kindF_bd _ _).1) ht1 hall2.out HQ.out)
            have f2 := hb1.frozen 0
            have f3 := hb1.frozen 1
            have c4 := hb1.cell 0
            have c5 := hb1.cell 1
            simp only [List.getElem?_toArray, List.getElem?_cons_zero, List.getElem?_cons_succ] at c4 c5
            go_wp2_with fail
            have hbf : Blk ((wr.setCell ⟨w.heap.size, 0, none⟩ (.int .i64 ((g : Int) + 1))).setCell ⟨w.heap.size, 1, none⟩ (.int .i64 t)) w.heap.size 92 #[.int .i64 ((g : Int) + 1), .int .i64 t] := by
              simpa using (hb1.set_ 0 (.int .i64 ((g : Int) + 1))).set_ 1 (.int .i64 t)
            have c6 := hbf.cell 0
            have c7 := hbf.cell 1
            simp only [List.getElem?_toArray, List.getElem?_cons_zero, List.getElem?_cons_succ] at c6 c7
            clear c4 c5 f2 f3 c0 c1 hbf
            rw [HFL.out, HR.out]
            refine bodyPost_ret (by simp [results, Try.results58, go_sem, c6, c7]; try rfl) rfl ?_
            exact ⟨rfl, (he.setCell (by simp) _).setCell (by simp) _⟩
end Go.Proofs.Ytmhgndjmcignjaa
