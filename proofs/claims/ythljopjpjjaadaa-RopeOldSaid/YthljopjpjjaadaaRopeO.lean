/-
  Of, Len, Tall, Split, Join of package rope, and roped, least: the walks.
-/
import Derived.Test.YthljopjpjjaadaaRopeS
import Derived.Test.YthljopjpjjaadaaRopeC
import Derived.IntWalk
namespace Go.Proofs.Ythljopjpjjaadaa
open Go.RowKit
set_option linter.unusedVariables false
set_option linter.unusedSimpArgs false

theorem Blk.setNe {w : World} {g t : Nat} {cs : Array Value} (h : Blk w g t cs) {p : Addr} (hp : p.block ≠ g) (u : Value) : Blk (w.setCell p u) g t cs := by
  unfold Blk at h ⊢
  unfold World.setCell
  simp only [Array.getElem?_modify]
  rw [if_neg hp]
  exact h
/-- A slot of another type is written: the tree stays. -/
theorem TreeAt.slot {w : World} {q T : Nat} {x u : Value} (hT : T ≠ 49) (hb : Blk w q T #[x]) : ∀ {t : Tr} {a : Option Addr}, TreeAt w a t → TreeAt (w.setCell ⟨q, 0, none⟩ u) a t
  | .nil, a, h => h
  | .node l c r, a, h => by
    obtain ⟨g, la, ra, h1, h2, h3, h4⟩ := h
    refine ⟨g, la, ra, h1, h2.setNe ?_ u, TreeAt.slot hT hb h3, TreeAt.slot hT hb h4⟩
    intro e
    have e : q = g := e
    subst e
    unfold Blk at hb h2
    rw [hb] at h2
    injection h2 with h2
    injection h2 with _ h2
    exact hT h2
theorem slot1 {w W : World} {q T : Nat} {x0 : Value} (hb : Blk W q T #[x0]) (he : Ext w W) (hq : w.heap.size ≤ q) :
    (∀ x : Value, (W.setCell ⟨q, 0, none⟩ x).cell? ⟨q, 0, none⟩ = some x) ∧ (∀ x : Value, Ext w (W.setCell ⟨q, 0, none⟩ x)) ∧ (∀ x : Value, Blk (W.setCell ⟨q, 0, none⟩ x) q T #[x]) :=
  ⟨fun x => by have := (hb.set_ 0 x).cell 0; simpa using this, fun x => he.setCell hq _, fun x => by simpa using hb.set_ 0 x⟩

theorem build_ok : ∀ f : Nat, BuildP f
  | 0 => by
    intro l A n c w hl hf hn
    obtain rfl : n = 0 := by omega
    obtain rfl : l = [] := List.eq_nil_of_length_eq_zero hl.len
    clear hl
    go_enter Try.func23, Try.ntmps23
    go_wp2_with fail
    go_ret
    exact ⟨none, rfl, rfl, Ext.refl _⟩
  | f + 1 => by
    intro l A n c w hl hf hn
    rcases Nat.eq_zero_or_pos n with h0 | h0
    · subst h0
      obtain rfl : l = [] := List.eq_nil_of_length_eq_zero hl.len
      clear hl
      go_enter Try.func23, Try.ntmps23
      go_wp2_with fail
      go_ret
      exact ⟨none, rfl, rfl, Ext.refl _⟩
    · have hlen := hl.len
      have e : Tr.buildF (f + 1) l = Tr.node (Tr.buildF f (l.take (n / 2))) (gI l (n / 2)) (Tr.buildF f (l.drop (n / 2 + 1))) := by
        show (if l.length = 0 then _ else _) = _
        rw [if_neg (by omega), hlen]
      rw [e]
      exact build_step (Lib.hid (build_ok f)) hl hf hn h0

set_option maxHeartbeats 2000000 in
theorem of_small {l : List Int} {A : Option Addr} {n c : Nat} {w : World} (hl : Ints w A n c l) (hn : n ≤ 4096) :
    Calls Try.prog 10 #[.slice A n c] w fun e w' => ∃ v, e = .returned (.tuple #[.agg #[.pointer v], .int .i64 0]) ∧ TreeAt w' v (Tr.build l) ∧ Ext w w' := by
  have hx := Ext.alloc w (.cells #[.pointer none] 26)
  have hb := Blk.new w 26 #[.pointer none]
  have HB := Lib.hid (build_ok n l A n c _ (hl.ext hx) (Nat.le_refl _) hn)
  have HE : Hid (Tr.buildF n l = Tr.build l) := Lib.hid (by unfold Tr.build; rw [hl.len])
  have hcm := hl.nmax
  have hnc := hl.ncap
  unfold maxLen at hcm
  clear hl
  go_enter Try.func10, Try.ntmps10
  go_wp2_with fail
  refine HB.out.mono ?_
  rintro e w1 ⟨v, rfl, hv, he⟩
  have hq := hb.ext he
  have f0 := hq.frozen 0
  have c0 := hq.cell 0
  simp only [List.getElem?_toArray, List.getElem?_cons_zero, List.getElem?_cons_succ] at c0
  have HQ := Lib.hid hq
  have HV := Lib.hid hv
  clear HB hb hq hv
  go_wp2_with fail
  obtain ⟨c6, hx6, _⟩ := slot1 HQ.out (hx.trans he) (Nat.le_refl _)
  refine bodyPost_ret (by simp [results, Try.results10, go_sem, c6]; try rfl) rfl ?_
  refine ⟨v, rfl, ?_, hx6 _⟩
  rw [← HE.out]
  exact TreeAt.slot (by decide) HQ.out HV.out

set_option maxHeartbeats 1000000 in
theorem of_large {A : Option Addr} {n c : Nat} {w : World} (hnc : n ≤ c) (hcm : c ≤ maxLen) (hn : 4096 < n) :
    Calls Try.prog 10 #[.slice A n c] w fun e w' => e = .returned (.tuple #[.agg #[.pointer none], .int .i64 2]) ∧ Ext w w' := by
  have hx := Ext.alloc w (.cells #[.pointer none] 26)
  have hb := Blk.new w 26 #[.pointer none]
  have f0 := hb.frozen 0
  have c0 := hb.cell 0
  simp only [List.getElem?_toArray, List.getElem?_cons_zero, List.getElem?_cons_succ] at c0
  have HQ := Lib.hid hb
  unfold maxLen at hcm
  clear hb
  go_enter Try.func10, Try.ntmps10
  go_wp2_with fail
  obtain ⟨c6, hx6, _⟩ := slot1 HQ.out hx (Nat.le_refl _)
  refine bodyPost_ret (by simp [results, Try.results10, go_sem, c6]; try rfl) rfl ?_
  exact ⟨rfl, by first | exact hx6 _ | exact hx⟩

set_option maxHeartbeats 1000000 in
theorem len_ok {t : Tr} {a : Option Addr} {w : World} (h : TreeAt w a t) : Calls Try.prog 13 #[.agg #[.pointer a]] w fun e w' => e = .returned (.int .i64 t.sz) ∧ Ext w w' := by
  have hx := Ext.alloc w (.cells #[.pointer a] 26)
  have HS := Lib.hid (size_ok (TreeAt.ext hx h))
  clear h
  go_enter Try.func13, Try.ntmps13
  go_wp2_with fail
  refine HS.out.mono ?_
  rintro e w1 ⟨rfl, rfl⟩
  go_wp2_with fail
  go_ret
  exact ⟨rfl, hx⟩
set_option maxHeartbeats 1000000 in
theorem tallR_ok {t : Tr} {a : Option Addr} {w : World} (h : TreeAt w a t) : Calls Try.prog 12 #[.agg #[.pointer a]] w fun e w' => e = .returned (.int .i64 t.ht) ∧ Ext w w' := by
  have hx := Ext.alloc w (.cells #[.pointer a] 26)
  have HS := Lib.hid (tall_ok (TreeAt.ext hx h))
  clear h
  go_enter Try.func12, Try.ntmps12
  go_wp2_with fail
  refine HS.out.mono ?_
  rintro e w1 ⟨rfl, rfl⟩
  go_wp2_with fail
  go_ret
  exact ⟨rfl, hx⟩

set_option maxHeartbeats 4000000 in
theorem splitR_ok {t : Tr} {a : Option Addr} {k : Nat} {w : World} (h : TreeAt w a t) (hz : t.sz ≤ 4096) (hb : t.bal) (hk : k ≤ t.sz) :
    Calls Try.prog 14 #[.agg #[.pointer a], .int .i64 k] w fun e w' => ∃ v1 v2, e = .returned (.tuple #[.agg #[.pointer v1], .agg #[.pointer v2], .int .i64 0]) ∧ TreeAt w' v1 (t.split k).1 ∧ TreeAt w' v2 (t.split k).2 ∧ Ext w w' := by
  have hx : Ext w (((w.alloc (.cells #[.pointer a] 26)).alloc (.cells #[.pointer none] 26)).alloc (.cells #[.pointer none] 26)) := ((Ext.alloc _ _).to_alloc _).to_alloc _
  have hb0 := ((Blk.new w 26 #[.pointer a]).ext (Ext.alloc _ (.cells #[.pointer none] 26))).ext (Ext.alloc _ (.cells #[.pointer none] 26))
  have hb1 := (Blk.new (w.alloc (.cells #[.pointer a] 26)) 26 #[.pointer none]).ext (Ext.alloc _ (.cells #[.pointer none] 26))
  have hb2 := Blk.new ((w.alloc (.cells #[.pointer a] 26)).alloc (.cells #[.pointer none] 26)) 26 #[.pointer none]
  rw [show (w.alloc (.cells #[.pointer a] 26)).heap.size = w.heap.size + 1 by simp] at hb1
  rw [show ((w.alloc (.cells #[.pointer a] 26)).alloc (.cells #[.pointer none] 26)).heap.size = w.heap.size + 2 by simp] at hb2
  have HL := Lib.hid (len_ok (TreeAt.ext hx h))
  have HT := Lib.hid (TreeAt.ext hx h)
  have HZ := Lib.hid hz
  have HB := Lib.hid hb
  have d1 : (k : Int) ≤ (t.sz : Int) := by omega
  have hk5 : k ≤ 4096 := by omega
  have HK := Lib.hid hk5
  have k0 := hb0.cell 0
  simp only [List.getElem?_toArray, List.getElem?_cons_zero, List.getElem?_cons_succ] at k0
  clear h hz hb hk
  go_enter Try.func14, Try.ntmps14
  go_wp2_with fail
  refine HL.out.mono ?_
  rintro e w1 ⟨rfl, he1⟩
  have k1 := he1.cell k0
  have HS := Lib.hid (split_ok t k a w1 (TreeAt.ext he1 HT.out) (by have := HZ.out; omega) HB.out (by have := HK.out; omega))
  clear HL k0
  go_wp2_with fail
  refine HS.out.mono ?_
  rintro e w2 ⟨v1, v2, rfl, t1, t2, he2⟩
  have hy := he1.trans he2
  have hq1 := hb1.ext hy
  have hq2 := hb2.ext hy
  have hxw := hx.trans hy
  have f1 := hq1.frozen 0
  have f2 := hq2.frozen 0
  have c1 := hq1.cell 0
  have c2 := hq2.cell 0
  simp only [List.getElem?_toArray, List.getElem?_cons_zero, List.getElem?_cons_succ] at c1 c2
  have n1 : ¬ w.heap.size + 1 = w.heap.size + 2 := by omega
  have n2 : ¬ w.heap.size + 2 = w.heap.size + 1 := by omega
  have hq2' := hq2.setNe (p := ⟨w.heap.size + 1, 0, none⟩) n1 (.pointer v1)
  have u1 := TreeAt.slot (u := .pointer v1) (by decide) hq1 t1
  have u2 := TreeAt.slot (u := .pointer v1) (by decide) hq1 t2
  have u3 := TreeAt.slot (u := .pointer v2) (by decide) hq2' u1
  have u4 := TreeAt.slot (u := .pointer v2) (by decide) hq2' u2
  have hend : Ext w ((w2.setCell ⟨w.heap.size + 1, 0, none⟩ (.pointer v1)).setCell ⟨w.heap.size + 2, 0, none⟩ (.pointer v2)) := (hxw.setCell (Nat.le_succ _) _).setCell (Nat.le_add_right _ 2) _
  have hc1 : ((w2.setCell ⟨w.heap.size + 1, 0, none⟩ (.pointer v1)).setCell ⟨w.heap.size + 2, 0, none⟩ (.pointer v2)).cell? ⟨w.heap.size + 1, 0, none⟩ = some (.pointer v1) := by
    have := ((hq1.set_ 0 (.pointer v1)).setNe (p := ⟨w.heap.size + 2, 0, none⟩) n2 (.pointer v2)).cell 0
    simpa using this
  have hc2 : ((w2.setCell ⟨w.heap.size + 1, 0, none⟩ (.pointer v1)).setCell ⟨w.heap.size + 2, 0, none⟩ (.pointer v2)).cell? ⟨w.heap.size + 2, 0, none⟩ = some (.pointer v2) := by
    have := (hq2'.set_ 0 (.pointer v2)).cell 0
    simpa using this
  clear HS HT hb0 hb1 hb2 hx he1 he2 k1 t1 t2 u1 u2 hq1 hq2 hq2' hy
  go_wp2_with fail
  refine bodyPost_ret (by simp [results, Try.results14, go_sem, hc1, hc2]; try rfl) rfl ?_
  exact ⟨v1, v2, rfl, u3, u4, hend⟩

theorem len_quiet {t : Tr} {a : Option Addr} {w : World} (h : TreeAt w a t) : ∀ w1, Ext w w1 → Calls Try.prog 13 #[.agg #[.pointer a]] w1 fun e w' => e = .returned (.int .i64 t.sz) ∧ Ext w1 w' := fun w1 he => len_ok (TreeAt.ext he h)

set_option maxHeartbeats 8000000 in
theorem joinR_ok {l r : Tr} {a b : Option Addr} {w : World} (hl : TreeAt w a l) (hr : TreeAt w b r) (hz : l.sz + r.sz ≤ 4096) (bl : l.bal) (br : r.bal) :
    Calls Try.prog 17 #[.agg #[.pointer a], .agg #[.pointer b]] w fun e w' => ∃ v, e = .returned (.tuple #[.agg #[.pointer v], .int .i64 0]) ∧ TreeAt w' v (Tr.concat l r) ∧ Ext w w' := by
  have hx : Ext w (((w.alloc (.cells #[.pointer a] 26)).alloc (.cells #[.pointer b] 26)).alloc (.cells #[.pointer none] 26)) := ((Ext.alloc _ _).to_alloc _).to_alloc _
  have hb0 := ((Blk.new w 26 #[.pointer a]).ext (Ext.alloc _ (.cells #[.pointer b] 26))).ext (Ext.alloc _ (.cells #[.pointer none] 26))
  have hb1 := (Blk.new (w.alloc (.cells #[.pointer a] 26)) 26 #[.pointer b]).ext (Ext.alloc _ (.cells #[.pointer none] 26))
  have hb2 := Blk.new ((w.alloc (.cells #[.pointer a] 26)).alloc (.cells #[.pointer b] 26)) 26 #[.pointer none]
  rw [show (w.alloc (.cells #[.pointer a] 26)).heap.size = w.heap.size + 1 by simp] at hb1
  rw [show ((w.alloc (.cells #[.pointer a] 26)).alloc (.cells #[.pointer b] 26)).heap.size = w.heap.size + 2 by simp] at hb2
  have HL := Lib.hid (TreeAt.ext hx hl)
  have HR := Lib.hid (TreeAt.ext hx hr)
  have HZ := Lib.hid hz
  have HB := Lib.hid (And.intro bl br)
  have d1 : ¬ (4096 : Int) - (r.sz : Int) < (l.sz : Int) := by omega
  have b1 : l.sz ≤ 4096 := by omega
  have b2 : r.sz ≤ 4096 := by omega
  clear hl hr hz bl br
  go_enter Try.func17, Try.ntmps17
  go_wp2_with fail
  rw [show w.heap.size + 1 + 1 = w.heap.size + 2 from rfl]
  have hall := And.intro hx (And.intro hb0 (And.intro hb1 (And.intro hb2 (And.intro HL HR))))
  clear hx hb0 hb1 hb2 HL HR
  revert hall
  generalize ((w.alloc (.cells #[.pointer a] 26)).alloc (.cells #[.pointer b] 26)).alloc (.cells #[.pointer none] 26) = W0
  rintro ⟨hx, hb0, hb1, hb2, HL, HR⟩
  have k0 := hb0.cell 0
  have k1 := hb1.cell 0
  simp only [List.getElem?_toArray, List.getElem?_cons_zero, List.getElem?_cons_succ] at k0 k1
  have hxd := Ext.drew W0
  obtain ⟨x, hxx⟩ : ∃ x, x = 4096 - r.sz := ⟨_, rfl⟩
  have hw4 : IntKind.i64.wrap ((4096 : Int) - (r.sz : Int)) = (x : Int) := by rw [IntWalk.i64_in _ (by omega)]; omega
  have d2 : decide ((x : Int) < (l.sz : Int)) = false := by simp; omega
  have d3 : ¬ (x : Int) < (l.sz : Int) := by omega
  have H1 : Hid (∀ (w1 : World) (a' : Option Addr), a' = a → Ext W0.drew w1 → Calls Try.prog 13 #[.agg #[.pointer a']] w1 fun e w' => e = .returned (.int .i64 l.sz) ∧ Ext w1 w') :=
    Lib.hid (fun w1 a' hq he => by rw [hq]; exact len_ok (TreeAt.ext (hxd.trans he) HL.out))
  have H2 : Hid (∀ (w1 : World) (a' : Option Addr), a' = b → Ext W0.drew w1 → Calls Try.prog 13 #[.agg #[.pointer a']] w1 fun e w' => e = .returned (.int .i64 r.sz) ∧ Ext w1 w') :=
    Lib.hid (fun w1 a' hq he => by rw [hq]; exact len_ok (TreeAt.ext (hxd.trans he) HR.out))
  clear d1 hxx
  go_region_held3 (fun w' => w'.cell? ⟨w.heap.size, 0, none⟩ = some (.pointer a) ∧ w'.cell? ⟨w.heap.size + 1, 0, none⟩ = some (.pointer b)) (first | go_keep | (exact ⟨Ext.cell (by assumption) (by first | assumption | exact And.left (by assumption)), Ext.cell (by assumption) (by first | assumption | exact And.right (by assumption))⟩)) (first
    | (go_at_call 13
       first
         | (refine (H1.out _ _ (by with_reducible rfl) (by first | exact Ext.refl _ | assumption)).mono ?_
            rintro e wa ⟨rfl, hea⟩)
         | (refine (H2.out _ _ (by with_reducible rfl) (by first | exact Ext.refl _ | assumption)).mono ?_
            rintro e wb ⟨rfl, heb⟩)))
  have d4 : l.sz ≤ x := by omega
  have hyb := hxd.trans (hea.trans heb)
  have k2 := hyb.cell k0
  have k3 := hyb.cell k1
  have HC := Lib.hid (concat_ok (TreeAt.ext hyb HL.out) (TreeAt.ext hyb HR.out) (by have := HZ.out; omega) HB.out.1 HB.out.2)
  clear H1 H2 hw4 d2 d3 k0 k1 hea heb HL HR
  go_wp2_with fail
  all_goals first
    | (exfalso; omega)
    | skip
  refine HC.out.mono ?_
  rintro e w2 ⟨v, rfl, hv, he2⟩
  have hy := hyb.trans he2
  have hq := hb2.ext hy
  have f0 := hq.frozen 0
  have c0 := hq.cell 0
  simp only [List.getElem?_toArray, List.getElem?_cons_zero, List.getElem?_cons_succ] at c0
  have HQ := Lib.hid hq
  have HV := Lib.hid hv
  clear HC hq hv k2 k3 hb0 hb1 hb2
  go_wp2_with fail
  obtain ⟨c6, hx6, _⟩ := slot1 HQ.out (hx.trans hy) (Nat.le_add_right _ 2)
  refine bodyPost_ret (by simp [results, Try.results17, go_sem, c6]; try rfl) rfl ?_
  exact ⟨v, rfl, TreeAt.slot (by decide) HQ.out HV.out, hx6 _⟩

set_option maxHeartbeats 2000000 in
theorem roped_ok {l : List Int} {A : Option Addr} {n c : Nat} {w : World} (hl : Ints w A n c l) (hn : n ≤ 4096) :
    Calls Try.prog 8 #[.slice A n c] w fun e w' => ∃ v, e = .returned (.agg #[.pointer v]) ∧ TreeAt w' v (Tr.build l) ∧ Ext w w' := by
  have hx := Ext.alloc w (.cells #[.pointer none] 26)
  have hb := Blk.new w 26 #[.pointer none]
  have HB := Lib.hid (of_small (hl.ext hx) hn)
  clear hl
  go_enter Try.func8, Try.ntmps8
  go_wp2_with fail
  refine HB.out.mono ?_
  rintro e w1 ⟨v, rfl, hv, he⟩
  have hxw := hx.trans (he.trans (Ext.alloc w1 (.cells #[.pointer v] 26)))
  have hq := (hb.ext he).ext (Ext.alloc w1 (.cells #[.pointer v] 26))
  have f0 := hq.frozen 0
  have c0 := hq.cell 0
  have hv' := TreeAt.ext (Ext.alloc w1 (.cells #[.pointer v] 26)) hv
  simp only [List.getElem?_toArray, List.getElem?_cons_zero, List.getElem?_cons_succ] at c0
  have n1 : ¬ w.heap.size = w1.heap.size := by have := (hb.ext he).lt; omega
  have n2 : ¬ w1.heap.size = w.heap.size := by omega
  have HQ := Lib.hid hq
  have HV := Lib.hid hv'
  clear HB hb hq hv hv' he
  go_wp2_with fail
  obtain ⟨c6, hx6, _⟩ := slot1 HQ.out hxw (Nat.le_refl _)
  refine bodyPost_ret (by simp [results, Try.results8, go_sem, c6]; try rfl) rfl ?_
  exact ⟨v, rfl, TreeAt.slot (by decide) HQ.out HV.out, hx6 _⟩

/-- The least numbers of a tree so tall. -/
def leF : Nat → Nat
  | 0 => 0
  | 1 => 1
  | t + 2 => 1 + leF t + leF (t + 1)
theorem leF_mono : ∀ t, leF t ≤ leF (t + 1)
  | 0 => by decide
  | 1 => by decide
  | t + 2 => by
    show leF (t + 2) ≤ 1 + leF (t + 1) + leF (t + 2)
    omega
theorem leF_up {s t : Nat} (h : s ≤ t) : leF s ≤ leF t := by
  induction t with
  | zero => rw [show s = 0 by omega]; exact Nat.le_refl _
  | succ t ih =>
    rcases Nat.lt_or_ge t s with h1 | h1
    · rw [show s = t + 1 by omega]; exact Nat.le_refl _
    · exact Nat.le_trans (ih h1) (leF_mono t)
theorem leF_bal : ∀ {t : Tr}, t.bal → leF t.ht ≤ t.sz
  | .nil, _ => Nat.le_refl _
  | .node l c r, ⟨b1, b2, b3, b4⟩ => by
    have h1 := leF_bal b1
    have h2 := leF_bal b2
    show leF (1 + max l.ht r.ht) ≤ l.sz + 1 + r.sz
    rcases Nat.lt_or_ge l.ht r.ht with h | h
    · rw [show 1 + max l.ht r.ht = l.ht + 2 by omega]
      show 1 + leF l.ht + leF (l.ht + 1) ≤ _
      rw [show l.ht + 1 = r.ht by omega]; omega
    · rcases Nat.lt_or_ge r.ht l.ht with h' | h'
      · rw [show 1 + max l.ht r.ht = r.ht + 2 by omega]
        show 1 + leF r.ht + leF (r.ht + 1) ≤ _
        rw [show r.ht + 1 = l.ht by omega]; omega
      · have he : r.ht = l.ht := by omega
        rw [show 1 + max l.ht r.ht = l.ht + 1 by omega]
        rw [he] at h2
        cases hh : l.ht with
        | zero => rw [hh] at h1; show 1 ≤ _; omega
        | succ k =>
          rw [hh] at h1 h2
          show 1 + leF k + leF (k + 1) ≤ _
          have := leF_mono k
          omega

set_option maxHeartbeats 2000000 in
theorem least_ok (t : Nat) (w : World) (hb : leF t ≤ 4096) (ht : t ≤ 100000) : Calls Try.prog 16 #[.int .i64 t] w fun e w' => e = .returned (.int .i64 (leF t)) ∧ w = w' := by
  go_enter Try.func16, Try.ntmps16
  go_wp2_with fail
  go_loopw [3, 4, 6] (fun a b i wr => ∃ k x y : Nat, k ≤ t ∧ i = .int .i64 k ∧ a = .int .i64 x ∧ b = .int .i64 y ∧ Hid (x = leF k ∧ y = leF (k + 1)) ∧ x ≤ 4096 ∧ y ≤ 8193 ∧ w = wr) (fun _ _ i _ => t - (intOf i).toNat)
  case atStart => exact ⟨0, 0, 1, by omega, rfl, rfl, rfl, ⟨rfl, rfl⟩, by omega, by omega, rfl⟩
  case round =>
    obtain ⟨k, x, y, hk, rfl, rfl, rfl, HX, hx, hy, rfl⟩ := hrel
    by_cases hlt : k < t
    · have hy2 : y ≤ 4096 := by
        have := leF_up (show k + 1 ≤ t by omega)
        have := HX.out.2
        omega
      have HN : Hid (1 + x + y = leF (k + 1 + 1)) := Lib.hid (by rw [HX.out.1, HX.out.2]; rfl)
      obtain ⟨z, hz⟩ : ∃ z, z = 1 + x + y := ⟨_, rfl⟩
      have HZ := Lib.hid hz
      have hz1 : (1 : Int) + x + y = (z : Int) := by omega
      have hzb : z ≤ 8193 := by omega
      clear hz
      go_wp2_with fail
      go_roundw
      case rel => exact ⟨k + 1, y, z, by omega, by go_num, rfl, by first | rfl | (congr 1), ⟨HX.out.2, by rw [HZ.out]; exact HN.out⟩, hy2, hzb, by trivial⟩
      case measure => simp [intOf]; omega
    · obtain rfl : k = t := by omega
      go_wp2_with fail
      go_ret
      exact ⟨ret_int (by rw [HX.out.1]), rfl⟩
end Go.Proofs.Ythljopjpjjaadaa
