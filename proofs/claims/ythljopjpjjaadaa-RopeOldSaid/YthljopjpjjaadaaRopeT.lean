/-
  A rope's numbers as a list: the walk of List, whose closure calls itself.
-/
import Derived.Test.YthljopjpjjaadaaRopeO
import Derived.Test.YthljopjpjjaadaaLibA
import Derived.Test.YthljopjpjjaadaaPush
import Derived.Deep.RegionLaw
import Derived.Laws.EntriesVeiled
namespace Go.Proofs.Ythljopjpjjaadaa
open Go.RowKit
set_option linter.unusedVariables false
set_option linter.unusedSimpArgs false

theorem grownBy_setCell (w : World) (p : Addr) (u : Value) : w.grownBy (w.setCell p u) (some p.block) :=
  ⟨rfl, rfl, rfl, by simp, fun k hk hne => by
    unfold World.setCell
    split <;> (simp only [Array.getElem?_modify]; rw [if_neg (fun e => hne (by rw [e]))])⟩
theorem Own.setNe {w : World} {base e z n c : Nat} {A : Option Addr} {xs : List Value} (h : Own w base e z A n c xs) {p : Addr} (hne : (Value.slice A n c).ownBlock ≠ some p.block) (u : Value) : Own (w.setCell p u) base e z A n c xs :=
  Own.kept h (grownBy_setCell w p u) (.inr hne)

theorem one1 {k : Int} : ∀ u ∈ (#[.int .i64 k] : Array Value).toList, u.oneCell' = true := by
  intro u hu
  simp at hu
  subst hu
  rfl
/-- What List's closure works on: the row in one cell, the closure itself in another. -/
def LstAt (w : World) (b0 g1 g2 T : Nat) (xs : List Int) : Prop :=
  ∃ A c, Blk w g1 22 #[.slice A xs.length c] ∧ Blk w g2 T #[.func (.func 28) #[] #[.pointer (some ⟨g2, 0, none⟩), .pointer (some ⟨g1, 0, none⟩)]] ∧ OwnI w b0 A xs.length c xs ∧
    (Value.slice A xs.length c).ownBlock ≠ some g1 ∧ (Value.slice A xs.length c).ownBlock ≠ some g2 ∧ b0 ≤ w.heap.size

theorem LstAt.cells {w : World} {b0 g1 g2 T : Nat} {xs : List Int} (h : LstAt w b0 g1 g2 T xs) : w.cell? ⟨g2, 0, none⟩ = some (.func (.func 28) #[] #[.pointer (some ⟨g2, 0, none⟩), .pointer (some ⟨g1, 0, none⟩)]) := by
  obtain ⟨A, c, h1, h2, h3⟩ := h
  have := h2.cell 0
  simpa using this
theorem LstAt.drew {w : World} {b0 g1 g2 T : Nat} {xs : List Int} (h : LstAt w b0 g1 g2 T xs) : LstAt w.drew b0 g1 g2 T xs := by
  obtain ⟨A, c, h1, h2, h3, h4⟩ := h
  exact ⟨A, c, h1, h2, OwnI.ext h3 (Ext.drew w), h4⟩

theorem LstAt.of {w : World} {b0 g1 g2 T q c : Nat} {A : Option Addr} {xs : List Int} (hq : xs.length = q) (h1 : Blk w g1 22 #[.slice A q c])
    (h2 : Blk w g2 T #[.func (.func 28) #[] #[.pointer (some ⟨g2, 0, none⟩), .pointer (some ⟨g1, 0, none⟩)]]) (h3 : OwnI w b0 A q c xs) (h4 : (Value.slice A q c).ownBlock ≠ some g1) (h5 : (Value.slice A q c).ownBlock ≠ some g2) (h6 : b0 ≤ w.heap.size) : LstAt w b0 g1 g2 T xs := by
  subst hq
  exact ⟨A, c, h1, h2, h3, h4, h5, h6⟩
theorem LstAt.pushed {w1 w3 : World} {b0 g1 g2 T n q c c2 : Nat} {A A2 : Option Addr} {xs : List Int} {ch : Int} {v : Value} (hO2 : Own w3 b0 3 1 A2 (q + 1) c2 (xs.map (Value.int .i64) ++ (#[.int .i64 ch] : Array Value).toList))
    (hb3 : Blk w3 g1 22 #[v]) (hb4 : Blk w3 g2 T #[.func (.func 28) #[] #[.pointer (some ⟨g2, 0, none⟩), .pointer (some ⟨g1, 0, none⟩)]])
    (hgr : w1.drew.grownBy w3 (Value.slice A n c).ownBlock) (hor : (Value.slice A2 (q + 1) c2).ownBlock = (Value.slice A n c).ownBlock ∨ ∃ g, w1.drew.heap.size ≤ g ∧ (Value.slice A2 (q + 1) c2).ownBlock = some g)
    (hq : xs.length = q) (hn1 : (Value.slice A n c).ownBlock ≠ some g1) (hn2 : (Value.slice A n c).ownBlock ≠ some g2) (hlb1 : g1 < w1.heap.size) (hlb2 : g2 < w1.heap.size) (hne : g1 ≠ g2) (hbs : b0 ≤ w1.heap.size) :
    LstAt (w3.setCell ⟨g1, 0, none⟩ (.slice A2 (q + 1) c2)) b0 g1 g2 T (xs ++ [ch]) := by
  have e1 : (Value.slice A2 (q + 1) c2).ownBlock ≠ some g1 := by
    rcases hor with h | ⟨g, h, h'⟩
    · rw [h]; exact hn1
    · rw [h']; intro e; injection e with e; have : w1.drew.heap.size = w1.heap.size := rfl; omega
  have e2 : (Value.slice A2 (q + 1) c2).ownBlock ≠ some g2 := by
    rcases hor with h | ⟨g, h, h'⟩
    · rw [h]; exact hn2
    · rw [h']; intro e; injection e with e; have : w1.drew.heap.size = w1.heap.size := rfl; omega
  refine LstAt.of (by simp [hq]) (by simpa using hb3.set_ 0 (.slice A2 (q + 1) c2)) (Blk.setNe hb4 (p := ⟨g1, 0, none⟩) hne _) (by
    have := Own.setNe hO2 (p := ⟨g1, 0, none⟩) e1 (.slice A2 (q + 1) c2)
    simpa [OwnI] using this) e1 e2 (by
    have h1 := hgr.size
    have h2 : w1.drew.heap.size = w1.heap.size := rfl
    simp; omega)

def ListP (t : Tr) : Prop := ∀ (w0 : World) (a : Option Addr) (b0 g1 g2 T : Nat) (xs : List Int) (w : World), TreeAt w0 a t → Ext w0 w → w0.heap.size ≤ b0 → w0.heap.size ≤ g1 → g1 ≠ g2 → xs.length + t.sz ≤ 8192 → LstAt w b0 g1 g2 T xs →
  Calls Try.prog 28 #[.pointer a, .pointer (some ⟨g2, 0, none⟩), .pointer (some ⟨g1, 0, none⟩)] w fun e w' => e = .returned (.tuple #[]) ∧ Ext w0 w' ∧ LstAt w' b0 g1 g2 T (xs ++ t.toL)

theorem walk_nil : ListP .nil := by
  intro w0 a b0 g1 g2 T xs w ht he hb hg hne hs hl
  obtain rfl := ht
  have H := Lib.hid hl
  clear hl
  go_enter Try.func28, Try.ntmps28
  go_wp2_with fail
  go_end0
  exact ⟨rfl, he, by simpa [Tr.toL] using H.out⟩

set_option maxRecDepth 20000 in
set_option maxHeartbeats 4000000 in
theorem walk_node {l r : Tr} {ch : Int} (IHl : Hid (ListP l)) (IHr : Hid (ListP r)) : ListP (.node l ch r) := by
  intro w0 a b0 g1 g2 T xs w ht he hb hg hne hs hl
  obtain ⟨i0, hi, hz0, hz1, hz2⟩ := info_parts info_int
  have hsz : xs.length + l.sz + 1 + r.sz ≤ 8192 := by unfold Tr.sz at hs; omega
  clear hs
  obtain ⟨gn, la, ra, rfl, hB, htl, htr⟩ := ht
  have hgn := hB.lt
  have n0 := hB.cell 0
  have n1 := hB.cell 1
  have n2 := hB.cell 2
  simp only [List.getElem?_toArray, List.getElem?_cons_zero, List.getElem?_cons_succ] at n0 n1 n2
  have HN0 : Hid (∀ w1, Ext w0 w1 → w1.cell? ⟨gn, 0, none⟩ = some (.pointer la)) := Lib.hid fun w1 h1 => h1.cell n0
  have HN1 : Hid (∀ w1, Ext w0 w1 → w1.cell? ⟨gn, 1, none⟩ = some (.pointer ra)) := Lib.hid fun w1 h1 => h1.cell n1
  have HN2 : Hid (∀ w1, Ext w0 w1 → w1.cell? ⟨gn, 2, none⟩ = some (.int .i64 ch)) := Lib.hid fun w1 h1 => h1.cell n2
  have IL : Hid (∀ w1, Ext w0 w1 → LstAt w1 b0 g1 g2 T xs → Calls Try.prog 28 #[.pointer la, .pointer (some ⟨g2, 0, none⟩), .pointer (some ⟨g1, 0, none⟩)] w1 fun e w' => e = .returned (.tuple #[]) ∧ Ext w0 w' ∧ LstAt w' b0 g1 g2 T (xs ++ l.toL)) :=
    Lib.hid fun w1 h1 h2 => IHl.out w0 la b0 g1 g2 T xs w1 htl h1 hb hg hne (by omega) h2
  have IR : Hid (∀ w1, Ext w0 w1 → LstAt w1 b0 g1 g2 T (xs ++ l.toL ++ [ch]) → Calls Try.prog 28 #[.pointer ra, .pointer (some ⟨g2, 0, none⟩), .pointer (some ⟨g1, 0, none⟩)] w1 fun e w' => e = .returned (.tuple #[]) ∧ Ext w0 w' ∧ LstAt w' b0 g1 g2 T (xs ++ l.toL ++ [ch] ++ r.toL)) :=
    Lib.hid fun w1 h1 h2 => IHr.out w0 ra b0 g1 g2 T _ w1 htr h1 hb hg hne (by rw [List.length_append, List.length_append, Tr.len]; simp; omega) h2
  have HE : Hid (xs ++ (Tr.node l ch r).toL = xs ++ l.toL ++ [ch] ++ r.toL) := Lib.hid (by rw [Tr.toL_node]; simp)
  have hlen : (xs ++ l.toL).length ≤ 8191 := by rw [List.length_append, Tr.len]; omega
  clear IHl IHr n0 n1 n2 hB htl htr hsz
  rw [HE.out]
  clear HE
  have HD := Lib.hid (LstAt.drew hl)
  have hwd := he.to_drew
  have k2 := hl.cells
  have m0 := HN0.out w he
  clear hl he
  go_enter Try.func28, Try.ntmps28
  go_wp2_with fail
  go_region_held3 (fun w' => w'.cell? ⟨g2, 0, none⟩ = some (.func (.func 28) #[] #[.pointer (some ⟨g2, 0, none⟩), .pointer (some ⟨g1, 0, none⟩)]) ∧ w'.cell? ⟨gn, 0, none⟩ = some (.pointer la))
    (first | assumption | exact ⟨k2, m0⟩ | exact ⟨hL1.cells, HN0.out _ hE1⟩)
    ((go_at_call 28; refine (IL.out _ hwd HD.out).mono ?_; rintro e w1 ⟨rfl, hE1, hL1⟩))
  clear k2 m0 HD hwd IL HN0
  obtain ⟨A, c, hb1, hb2, hown, hn1, hn2, hbs⟩ := hL1
  generalize hys : xs ++ l.toL = ys at *
  have HY := Lib.hid hys
  clear hys
  obtain ⟨q, hq⟩ : ∃ q, ys.length = q := ⟨_, rfl⟩
  rw [hq] at hb1 hown hn1 hn2 hlen
  have HQ := Lib.hid hq
  clear hq
  have k1 := hb1.cell 0
  simp only [List.getElem?_toArray, List.getElem?_cons_zero] at k1
  have m2 := HN2.out w1 hE1
  have a1 : (w1.drew.alloc (.cells #[.int .i64 ch] 3)).cell? ⟨g1, 0, none⟩ = some (.slice A q c) := Ext.cell (Ext.alloc w1.drew _) k1
  have a2 : (w1.drew.alloc (.cells #[.int .i64 ch] 3)).cell? ⟨gn, 2, none⟩ = some (.int .i64 ch) := Ext.cell (Ext.alloc w1.drew _) m2
  have hw2 := Own.ext hown (Ext.drew w1)
  have hlb1 := hb1.lt
  have hlb2 := hb2.lt
  have hed := hE1.to_drew
  go_wp2_with fail
  go_region_law (first
    | (refine step_put rfl (.tmp 12) (.tmp 17) 22 rfl w0 b0 3 i0 _ 1 8 Try.underlying22 hi hz0 hz1 hz2 rfl (by decide) A _ c _ rfl hw2 #[.int .i64 ch] rfl one1 rfl (by unfold maxLen; omega) (by omega) hed hb hbs ?_
       intro A2 c2 w3 hO2 hgr hor hx3
       have hb3 := Blk.grown (hb1.drewN 1) hgr (fun e => hn1 e.symm)
       have hb4 := Blk.grown (hb2.drewN 1) hgr (fun e => hn2 e.symm)
       have c0 := hb3.cell 0
       have f0 := hb3.frozen 0
       simp only [List.getElem?_toArray, List.getElem?_cons_zero] at c0))
  all_goals
    have hS := LstAt.pushed hO2 hb3 hb4 hgr hor HQ.out hn1 hn2 hlb1 hlb2 hne hbs
    have hE4 := Ext.setCell hx3 (p := ⟨g1, 0, none⟩) hg (.slice A2 (q + 1) c2)
    clear hO2 hb3 hb4 hgr hor hx3 c0 f0 k1 m2 a1 a2 hw2 hlb1 hlb2 hed hb1 hb2 hown hn1 hn2 hbs HN2
    revert hS hE4
    generalize w3.setCell ⟨g1, 0, none⟩ (.slice A2 (q + 1) c2) = w4
    intro hS hE4
    have HD := Lib.hid hS.drew
    have hwd := hE4.to_drew
    have k2 := hS.cells
    have m1 := HN1.out w4 hE4
    clear hS
    go_wp2_with fail
    go_region_held3 (fun w' => w'.cell? ⟨g2, 0, none⟩ = some (.func (.func 28) #[] #[.pointer (some ⟨g2, 0, none⟩), .pointer (some ⟨g1, 0, none⟩)]) ∧ w'.cell? ⟨gn, 1, none⟩ = some (.pointer ra))
      (first | assumption | exact ⟨k2, m1⟩ | exact ⟨hL5.cells, HN1.out _ hE5⟩)
      ((go_at_call 28; refine (IR.out _ hwd HD.out).mono ?_; rintro e w5 ⟨rfl, hE5, hL5⟩))
    go_wp2_with fail
    go_end0
    exact ⟨rfl, hE5, by rw [HY.out]; exact hL5⟩

theorem walk_ok : ∀ t : Tr, ListP t
  | .nil => walk_nil
  | .node l ch r => walk_node (Lib.hid (walk_ok l)) (Lib.hid (walk_ok r))
theorem list_start {w w1 : World} {a : Option Addr} {n : Nat} (c0 : w1.cell? ⟨w.heap.size, 0, none⟩ = some (.pointer a)) (he : Ext w w1) (hn : n ≤ 100000) :
    (((w1.alloc (.cells (madeCells #[.int .i64 0] n) 3)).alloc (.cells #[.slice (some ⟨w1.heap.size, 0, none⟩) 0 n] 22)).alloc (.cells #[.func (.func 28) #[] #[.pointer (some ⟨w1.heap.size + 1 + 1, 0, none⟩), .pointer (some ⟨w1.heap.size + 1, 0, none⟩)]] 55)).cell? ⟨w1.heap.size + 1 + 1, 0, none⟩ = some (.func (.func 28) #[] #[.pointer (some ⟨w1.heap.size + 1 + 1, 0, none⟩), .pointer (some ⟨w1.heap.size + 1, 0, none⟩)]) ∧
    (((w1.alloc (.cells (madeCells #[.int .i64 0] n) 3)).alloc (.cells #[.slice (some ⟨w1.heap.size, 0, none⟩) 0 n] 22)).alloc (.cells #[.func (.func 28) #[] #[.pointer (some ⟨w1.heap.size + 1 + 1, 0, none⟩), .pointer (some ⟨w1.heap.size + 1, 0, none⟩)]] 55)).cell? ⟨w.heap.size, 0, none⟩ = some (.pointer a) ∧
    LstAt (((w1.alloc (.cells (madeCells #[.int .i64 0] n) 3)).alloc (.cells #[.slice (some ⟨w1.heap.size, 0, none⟩) 0 n] 22)).alloc (.cells #[.func (.func 28) #[] #[.pointer (some ⟨w1.heap.size + 1 + 1, 0, none⟩), .pointer (some ⟨w1.heap.size + 1, 0, none⟩)]] 55)) w1.heap.size (w1.heap.size + 1) (w1.heap.size + 1 + 1) 55 [] ∧
    Ext w1 (((w1.alloc (.cells (madeCells #[.int .i64 0] n) 3)).alloc (.cells #[.slice (some ⟨w1.heap.size, 0, none⟩) 0 n] 22)).alloc (.cells #[.func (.func 28) #[] #[.pointer (some ⟨w1.heap.size + 1 + 1, 0, none⟩), .pointer (some ⟨w1.heap.size + 1, 0, none⟩)]] 55)) := by
  have hown0 : Own (w1.alloc (.cells (madeCells #[.int .i64 0] n) 3)) w1.heap.size 3 1 (some ⟨w1.heap.size, 0, none⟩) 0 n [] :=
    World.ownsRow_made w1 _ _ (Nat.le_refl _) (by unfold maxLen; omega) (by simp [size_madeCells])
  have e0 := Ext.alloc w1 (.cells (madeCells #[.int .i64 0] n) 3)
  have z0 : (w1.alloc (.cells (madeCells #[.int .i64 0] n) 3)).heap.size = w1.heap.size + 1 := by simp
  generalize w1.alloc (.cells (madeCells #[.int .i64 0] n) 3) = W1 at *
  have b1 := Blk.new W1 22 #[.slice (some ⟨w1.heap.size, 0, none⟩) 0 n]
  have hown1 := Own.ext hown0 (Ext.alloc W1 (.cells #[.slice (some ⟨w1.heap.size, 0, none⟩) 0 n] 22))
  have e1 := e0.trans (Ext.alloc W1 (.cells #[.slice (some ⟨w1.heap.size, 0, none⟩) 0 n] 22))
  have z1 : (W1.alloc (.cells #[.slice (some ⟨w1.heap.size, 0, none⟩) 0 n] 22)).heap.size = w1.heap.size + 1 + 1 := by simp [z0]
  rw [z0] at b1
  generalize W1.alloc (.cells #[.slice (some ⟨w1.heap.size, 0, none⟩) 0 n] 22) = W2 at *
  have b2 := Blk.new W2 55 #[.func (.func 28) #[] #[.pointer (some ⟨w1.heap.size + 1 + 1, 0, none⟩), .pointer (some ⟨w1.heap.size + 1, 0, none⟩)]]
  have hown2 := Own.ext hown1 (Ext.alloc W2 (.cells #[.func (.func 28) #[] #[.pointer (some ⟨w1.heap.size + 1 + 1, 0, none⟩), .pointer (some ⟨w1.heap.size + 1, 0, none⟩)]] 55))
  have e2 := e1.trans (Ext.alloc W2 (.cells #[.func (.func 28) #[] #[.pointer (some ⟨w1.heap.size + 1 + 1, 0, none⟩), .pointer (some ⟨w1.heap.size + 1, 0, none⟩)]] 55))
  have b1' := b1.ext (Ext.alloc W2 (.cells #[.func (.func 28) #[] #[.pointer (some ⟨w1.heap.size + 1 + 1, 0, none⟩), .pointer (some ⟨w1.heap.size + 1, 0, none⟩)]] 55))
  have z2 : (W2.alloc (.cells #[.func (.func 28) #[] #[.pointer (some ⟨w1.heap.size + 1 + 1, 0, none⟩), .pointer (some ⟨w1.heap.size + 1, 0, none⟩)]] 55)).heap.size = w1.heap.size + 1 + 1 + 1 := by simp [z1]
  rw [z1] at b2
  generalize W2.alloc (.cells #[.func (.func 28) #[] #[.pointer (some ⟨w1.heap.size + 1 + 1, 0, none⟩), .pointer (some ⟨w1.heap.size + 1, 0, none⟩)]] 55) = W at *
  have k3 := b2.cell 0
  refine ⟨by simpa using k3, e2.cell c0, LstAt.of rfl b1' b2 hown2 ?_ ?_ ?_, e2⟩
  · simp [Value.ownBlock]
  · simp [Value.ownBlock]; omega
  · simp [z2]; omega
set_option maxRecDepth 20000 in
set_option maxHeartbeats 2000000 in
theorem list_ok {t : Tr} {a : Option Addr} {w : World} (h : TreeAt w a t) (hz : t.sz ≤ 8192) :
    Calls Try.prog 18 #[.agg #[.pointer a]] w fun e w' => ∃ A c, e = .returned (.slice A t.sz c) ∧ OwnI w' w.heap.size A t.sz c t.toL ∧ Ext w w' := by
  obtain ⟨i0, hi, hz0, hz1, hz2⟩ := info_parts info_int
  have hmk : ∀ u : World, (Instr.makeSlice 22 (.int .i64 0) (.int .i64 (t.sz : Int))).run Try.prog u =
      .ok (.slice (some ⟨u.heap.size, 0, none⟩) 0 t.sz) (u.alloc (.cells (madeCells #[.int .i64 0] t.sz) 3)) := fun u => by
    have h := run_make (P := Try.prog) u 22 3 i0 (.int .i64 0) Try.underlying22 hi hz0 .i64 .i64 0 (t.sz : Int) (by omega) (by omega) (by rw [hz2]; omega) (by omega)
    simpa [hz1, Value.cells] using h
  have hx := Ext.alloc w (.cells #[.pointer a] 26)
  have HLn := Lib.hid (len_ok (TreeAt.ext hx h))
  have HT := Lib.hid h
  clear hi h
  go_enter Try.func18, Try.ntmps18
  go_wp2_with fail
  refine HLn.out.mono ?_
  rintro e w1 ⟨rfl, he1⟩
  have he2 := hx.trans he1
  have c0 : w1.cell? ⟨w.heap.size, 0, none⟩ = some (.pointer a) := by
    exact he1.cell (by simp)
  obtain ⟨k3, c4, hL, hE⟩ := list_start c0 he2 (n := t.sz) (by omega)
  have hs1 := he2.hsize
  have HC := Lib.hid (walk_ok t _ a _ _ _ _ [] _ (TreeAt.ext he2 HT.out) hE (Nat.le_refl _) (by omega) (by omega) (by simpa using hz) hL)
  clear hL hE
  go_wp2_with fail
  refine HC.out.mono ?_
  rintro e w2 ⟨rfl, hE2, hL2⟩
  obtain ⟨A, c, hb1, hb2, hown, _⟩ := hL2
  have k1 := hb1.cell 0
  simp only [List.getElem?_toArray, List.getElem?_cons_zero, List.nil_append, Tr.len] at k1
  clear k3 c4 HC
  have HW : Hid (OwnI w2 w.heap.size A t.sz c t.toL) := Lib.hid (by have h := Own.lower hown hs1; simp only [List.nil_append, Tr.len] at h; exact h)
  clear hown hb1 hb2
  have hE3 := he2.trans hE2
  go_wp2_with fail
  go_ret
  exact ⟨A, c, rfl, HW.out, hE3⟩
end Go.Proofs.Ythljopjpjjaadaa
