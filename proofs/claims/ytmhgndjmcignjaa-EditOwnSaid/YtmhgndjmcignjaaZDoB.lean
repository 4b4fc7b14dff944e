/-
  edit.Do's walk, around what a command does.
-/
import Derived.Test.YtmhgndjmcignjaaZDoA
import Derived.Deep.DeepCutAuto
import Derived.Deep.CutRange
import Derived.Deep.CutBlock
import Derived.Deep.RegionHeld3

namespace Go.Proofs.Ytmhgndjmcignjaa
open Go.RowKit
set_option linter.unusedVariables false
set_option linter.unusedSimpArgs false

theorem res_info : (Try.prog.info? 33).map (·.size) = some 33 := by kernel_rfl
theorem res_size {cs : Array Value} (h : cs.size = 33) : (Try.prog.info? 33).map (·.size) = some cs.size := by rw [h]; exact res_info
theorem cells2L {w : World} {g t : Nat} {a b : Value} (h : Blk w g t #[a, b]) : w.cell? ⟨g, 0, none⟩ = some a ∧ w.cell? ⟨g, 1, none⟩ = some b := ⟨h.cell 0, h.cell 1⟩
theorem cells5 {w : World} {g t : Nat} {a b c d e : Value} (h : Blk w g t #[a, b, c, d, e]) : w.cell? ⟨g, 0, none⟩ = some a ∧ w.cell? ⟨g, 1, none⟩ = some b ∧ w.cell? ⟨g, 2, none⟩ = some c ∧ w.cell? ⟨g, 3, none⟩ = some d ∧ w.cell? ⟨g, 4, none⟩ = some e := ⟨h.cell 0, h.cell 1, h.cell 2, h.cell 3, h.cell 4⟩

theorem setRow_grown (w : World) (g : Nat) (us : Array Value) : w.grownBy (w.setRow g us) (some g) :=
  ⟨rfl, rfl, rfl, by simp [World.setRow], fun k hk hne => Go.setRow_other w g k us (fun e => hne (by rw [e]))⟩
/-- What a doer holds when a command is to be done. -/
structure DoerIs (w : World) (g : Nat) (cs : Array Value) (A : Option Addr) (n c : Nat) (a : Int) (rs : Array Value) (rl : Nat → List Int) (k1 k2 k3 k4 k5 fk fa : Int) (B : Option Addr) (d : Nat) : Prop where
  size : cs.size = 67
  text : cs[0]? = some (.slice A n c)
  at_ : cs[1]? = some (.int .i64 a)
  regs : ∀ j, j < 27 → cs[2 + j]? = rs[j]?
  c29 : cs[29]? = some (.int .i64 k1)
  c30 : cs[30]? = some (.int .i64 k2)
  c31 : cs[31]? = some (.int .i64 k3)
  c32 : cs[32]? = some (.int .i64 k4)
  c33 : cs[33]? = some (.int .i64 k5)
  out : cs[34]? = some (.slice B n d)
  oat : cs[35]? = some (.int .i64 a)
  oregs : ∀ j, j < 27 → ∃ v, cs[36 + j]? = some v ∧ RegOw w (g + 1) v (rl j)
  far : ∀ j, j < 27 → ∀ v, cs[36 + j]? = some v → ∀ g', (Value.slice B n d).ownBlock = some g' → v.ownBlock ≠ some g'
  c63 : cs[63]? = some (.int .i64 fk)
  c64 : cs[64]? = some (.int .i64 fa)
  c65 : cs[65]? = some (.int .i64 0)
  c66 : cs[66]? = some (.slice none 0 0)
/-- What comes of a command. -/
def DoneIs (g : Nat) (w : World) (Ok : Prop) (Post : World → Array Value → Prop) (e : Ending) (w' : World) : Prop :=
  ∃ er cs', e = .returned (.int .i64 er) ∧ w.grownBy w' (some g) ∧ (Ok → er = 0) ∧ (er = 0 → Blk w' g 57 cs' ∧ cs'.size = 67 ∧ (∀ k v, 34 ≤ k → cs'[k]? = some v → v.oneCell' = true) ∧ Post w' cs')
/-- What comes of Do. -/
def DidIs (w : World) (Ok : Prop) (Post : World → Array Value → Prop) (e : Ending) (w' : World) : Prop :=
  Ext w w' ∧ ((¬ Ok ∧ ∃ er, er ≠ 0 ∧ e = .returned (.tuple #[.agg resZ, .int .i64 er])) ∨ ∃ cs', cs'.size = 67 ∧ (cs'.extract 34 67).all (·.oneCell') = true ∧ e = .returned (.tuple #[.agg (cs'.extract 34 67), .int .i64 0]) ∧ Post w' cs')

/-- What was looked for last is something, or nothing; the operator is one, or none. -/
def FineC (fk k3 : Int) : Prop := (fk = 0 ∨ fk = 102 ∨ fk = 70 ∨ fk = 116 ∨ fk = 84) ∧ (k3 = 0 ∨ k3 = 100 ∨ k3 = 99 ∨ k3 = 121)
set_option maxRecDepth 20000 in
set_option maxHeartbeats 8000000 in
theorem do_walkF {w : World} {A : Option Addr} {n c : Nat} {a fk fa k1 k2 k3 k4 k5 : Int} {l : List Int} {rs : Array Value} {rl : Nat → List Int} {Ok : Prop} {Post : World → Array Value → Prop} (hl : Ints w A n c l) (hA : A = none → c = 0) (hr : Regs w rs rl) (hn : n ≤ 200) (ha : 0 ≤ a) (ha2 : a ≤ max 0 ((n : Int) - 1)) (hk : 0 ≤ k1) (hk2 : k1 ≤ 999)
    (hP : ∀ w1 w2 cs, Post w1 cs → w1.grownBy w2 (some (w.heap.size + 1 + 1 + 1 + 1)) → Post w2 cs)
    (H1 : FineC fk k3 → ∀ (wz : World) (g : Nat) (cs : Array Value) (B : Option Addr) (d : Nat), Ext w wz → w.heap.size + 5 ≤ g → Blk wz g 57 cs → DoerIs wz g cs A n c a rs rl k1 k2 k3 k4 k5 fk fa B d → OwnI wz (g + 1) B n d l → (B = none → d = 0) →
      Calls Try.prog 22 #[.pointer (some ⟨g, 0, none⟩)] wz (DoneIs g wz Ok Post)) :
    Calls Try.prog 8 #[.agg #[.slice A n c, .int .i64 a], .agg rs, .agg #[.int .i64 fk, .int .i64 fa], .agg #[.int .i64 k1, .int .i64 k2, .int .i64 k3, .int .i64 k4, .int .i64 k5]] w (DidIs w (FineC fk k3 ∧ Ok) Post) := by
  have HC : Hid (∀ w, Calls Try.prog 20 #[.agg #[.slice A n c, .int .i64 a]] w fun e w' => e = .returned (.int .i64 0) ∧ Ext w w') := Lib.hid fun w => check_fine w hn ha ha2
  obtain ⟨w0, hw0, hx0, hb0, hb1, hb2, hb3, hb4⟩ := do_start w A n c a fk fa k1 k2 k3 k4 k5 rs
  have HL := Lib.hid hl
  have HA := Lib.hid hA
  have HR := Lib.hid hr
  have hrs := Lib.hid hr.1
  have HX := Lib.hid hx0
  have B0 := Lib.hid hb0
  have B1 := Lib.hid hb1
  have B2 := Lib.hid hb2
  have B3 := Lib.hid hb3
  have B4 := Lib.hid hb4
  have HW := Lib.hid hw0
  have HN := Lib.hid hn
  have HPP := Lib.hid hP
  have HH1 := Lib.hid H1
  clear hl hr hx0 hb0 hb1 hb2 hb3 hb4 hw0 hA hn ha ha2 hP H1
  go_enter Try.func8, Try.ntmps8
  go_upto_region 1 with fail
  have hw := HW.out
  unfold resZ at hw
  change Code.wp _ _ _ _ (((((w.alloc (.cells #[.slice A n c, .int .i64 a] 24)).alloc (.cells rs 30)).alloc (.cells #[.int .i64 fk, .int .i64 fa] 26)).alloc (.cells #[.int .i64 k1, .int .i64 k2, .int .i64 k3, .int .i64 k4, .int .i64 k5] 28)).alloc (.cells resZ 33))
  unfold resZ
  rw [← hw]
  clear hw HW
  obtain ⟨x0, x1⟩ := cells2L B0.out
  go_wp2_with fail
  refine (HC.out _).mono ?_
  rintro e w1 ⟨rfl, he1⟩
  have C0 := Lib.hid (B0.out.ext he1)
  have C1 := Lib.hid (B1.out.ext he1)
  have C2 := Lib.hid (B2.out.ext he1)
  have C3 := Lib.hid (B3.out.ext he1)
  have C4 := Lib.hid (B4.out.ext he1)
  have CX := Lib.hid (HX.out.trans he1)
  clear x0 x1 B0 B1 B2 B3 B4 HX he1 HC
  obtain ⟨x0, x1⟩ := cells2L C0.out
  obtain ⟨y0, y1, y2, y3, y4⟩ := cells5 C3.out
  have hs4 : w.heap.size + 1 + 1 + 1 + 1 < w1.heap.size := C4.out.lt
  go_upto_region 6 with fail
  apply wp_region_lit
  refine wpList_load_row rfl 24 (.tmp 4) rfl w.heap.size rfl 24 #[.slice A n c, .int .i64 a] (0, 0) _ C0.out Try.underlying24 rfl (by kernel_rfl) ?_
  refine wpList_load_row rfl 30 (.tmp 5) rfl (w.heap.size + 1) rfl 30 rs (0, 0) _ C1.out Try.underlying30 rfl (regs_size hrs.out) ?_
  refine wpList_load_row rfl 28 (.tmp 7) rfl (w.heap.size + 1 + 1 + 1) rfl 28 #[.int .i64 k1, .int .i64 k2, .int .i64 k3, .int .i64 k4, .int .i64 k5] (0, 0) _ C3.out Try.underlying28 rfl (by kernel_rfl) ?_
  refine wpList_build3 rfl 57 0 1 2 (.tmp 29) (.tmp 30) (.tmp 31) rfl (.agg #[.slice A n c, .int .i64 a]) (.agg rs) (.agg #[.int .i64 k1, .int .i64 k2, .int .i64 k3, .int .i64 k4, .int .i64 k5]) rfl rfl rfl (doer0 A n c a rs k1 k2 k3 k4 k5) (do_built hrs.out) ?_
  refine wpList_box1 rfl 57 (.tmp 32) rfl (doer0 A n c a rs k1 k2 k3 k4 k5) rfl ?_
  go_upto_region 7 with fail
  change Code.wp _ _ _ _ (w1.alloc (.cells (doer0 A n c a rs k1 k2 k3 k4 k5) 57))
  have hx2 := Lib.hid (Ext.alloc w1 (.cells (doer0 A n c a rs k1 k2 k3 k4 k5) 57))
  have D9 := Lib.hid (Blk.new w1 57 (doer0 A n c a rs k1 k2 k3 k4 k5))
  clear x0 x1 y0 y1 y2 y3 y4
  generalize w1.alloc (.cells (doer0 A n c a rs k1 k2 k3 k4 k5) 57) = w2 at *
  obtain ⟨x0, x1⟩ := cells2L (C0.out.ext hx2.out)
  obtain ⟨z0, z1⟩ := cells2L (C2.out.ext hx2.out)
  have hs2 : w1.heap.size + 1 ≤ w2.heap.size := D9.out.lt
  have HCl := Lib.hid (clone_ok (HL.out.ext ((CX.out.trans hx2.out).trans (Ext.drew w2))) HA.out (by have := HN.out; omega))
  have hd0 := Lib.hid (doer0_size (A := A) (n := n) (c := c) (a := a) (k1 := k1) (k2 := k2) (k3 := k3) (k4 := k4) (k5 := k5) hrs.out)
  go_cut [] (fun wx => ∃ (B : Option Addr) (d : Nat), Hid (Blk wx w1.heap.size 57 (seg (doer0 A n c a rs k1 k2 k3 k4 k5) 34 (res1 (.slice B n d) a fk fa))) ∧ Hid (OwnI wx (w1.heap.size + 1) B n d l ∧ (B = none → d = 0)) ∧ Hid (Ext w1 wx))
  case first =>
    refine wp_region_held_drew (S := fun w' => w'.cell? ⟨w.heap.size, 0, none⟩ = some (.slice A n c) ∧ w'.cell? ⟨w.heap.size, 1, none⟩ = some (.int .i64 a) ∧ w'.cell? ⟨w.heap.size + 1 + 1, 0, none⟩ = some (.int .i64 fk) ∧ w'.cell? ⟨w.heap.size + 1 + 1, 1, none⟩ = some (.int .i64 fa)) (by kernel_rfl) ⟨x0, x1, z0, z1⟩ (fun hHeld => ?_)
    refine wpAnyH_take (i := 0) (v := (.pointer (some ⟨w1.heap.size, 0, none⟩))) rfl (by kernel_rfl) (by kernel_rfl) (by kernel_rfl) (fun _ _ _ h => h) (Or.inl ⟨by rfl, by (intro w hSw; obtain ⟨s0, s1, s2, s3⟩ := hSw; go_simp)⟩) hHeld ?_
    try simp only [List.getElem_toArray, List.getElem_cons_zero, List.getElem_cons_succ, Act.put, List.setIfInBounds_toArray, List.set_cons_zero, List.set_cons_succ]
    refine wpAnyH_take (i := 1) (v := (.pointer (some ⟨w.heap.size, 0, none⟩))) rfl (by kernel_rfl) (by kernel_rfl) (by kernel_rfl) (fun _ _ _ h => h) (Or.inl ⟨by rfl, by (intro w hSw; obtain ⟨s0, s1, s2, s3⟩ := hSw; go_simp)⟩) hHeld ?_
    try simp only [List.getElem_toArray, List.getElem_cons_zero, List.getElem_cons_succ, Act.put, List.setIfInBounds_toArray, List.set_cons_zero, List.set_cons_succ]
    refine wpAnyH_take (i := 2) (v := (.slice A n c)) rfl (by kernel_rfl) (by kernel_rfl) (by kernel_rfl) (fun _ _ _ h => h) (Or.inl ⟨by rfl, by (intro w hSw; obtain ⟨s0, s1, s2, s3⟩ := hSw; go_simp)⟩) hHeld ?_
    try simp only [List.getElem_toArray, List.getElem_cons_zero, List.getElem_cons_succ, Act.put, List.setIfInBounds_toArray, List.set_cons_zero, List.set_cons_succ]
    refine wpAnyH_take (i := 4) (v := (.pointer (some ⟨w.heap.size, 1, none⟩))) rfl (by kernel_rfl) (by kernel_rfl) (by kernel_rfl) (fun _ _ _ h => h) (Or.inl ⟨by rfl, by (intro w hSw; obtain ⟨s0, s1, s2, s3⟩ := hSw; go_simp)⟩) hHeld ?_
    try simp only [List.getElem_toArray, List.getElem_cons_zero, List.getElem_cons_succ, Act.put, List.setIfInBounds_toArray, List.set_cons_zero, List.set_cons_succ]
    refine wpAnyH_take (i := 5) (v := (.int .i64 a)) rfl (by kernel_rfl) (by kernel_rfl) (by kernel_rfl) (fun _ _ _ h => h) (Or.inl ⟨by rfl, by (intro w hSw; obtain ⟨s0, s1, s2, s3⟩ := hSw; go_simp)⟩) hHeld ?_
    try simp only [List.getElem_toArray, List.getElem_cons_zero, List.getElem_cons_succ, Act.put, List.setIfInBounds_toArray, List.set_cons_zero, List.set_cons_succ]
    refine wpAnyH_take (i := 7) (v := (.agg #[.int .i64 fk, .int .i64 fa])) rfl (by kernel_rfl) (by kernel_rfl) (by kernel_rfl) (fun _ _ _ h => h) (Or.inl ⟨by rfl, by (intro w hSw; obtain ⟨s0, s1, s2, s3⟩ := hSw; go_simp)⟩) hHeld ?_
    try simp only [List.getElem_toArray, List.getElem_cons_zero, List.getElem_cons_succ, Act.put, List.setIfInBounds_toArray, List.set_cons_zero, List.set_cons_succ]
    refine wpAnyH_ready (rs := [3]) (by kernel_rfl) (by simp) ?_
    refine AllReadyH.cons rfl (fun K hK => ?_) AllReadyH.nil
    refine step_callf rfl 21 #[.slice A n c] rfl (by kernel_rfl) (fun v w' => ∃ B d, v = .slice B n d ∧ OwnI w' w2.drew.heap.size B n d l ∧ (B = none → d = 0) ∧ Ext w2.drew w') (HCl.out.mono fun e w' ⟨B, d, h1, h2, h3, h4⟩ => ⟨_, h1, B, d, rfl, h2, h3, h4⟩) ?_
    rintro v w3 ⟨B, d, rfl, hO3, hB3, hx3⟩
    have hb3 := (D9.out.ext (Ext.drew w2)).ext hx3
    refine hK.out _ _ ⟨hx3.cell x0, hx3.cell x1, hx3.cell z0, hx3.cell z1⟩ (fun hHeld => ?_)
    clear hK K
    try simp only [List.getElem_toArray, List.getElem_cons_zero, List.getElem_cons_succ, Act.put, List.setIfInBounds_toArray, List.set_cons_zero, List.set_cons_succ]
    refine wpAnyH_take (i := 6) (v := (.agg #[.slice B n d, .int .i64 a])) rfl (by kernel_rfl) (by kernel_rfl) (by kernel_rfl) (fun _ _ _ h => h) (Or.inl ⟨by rfl, by (intro w hSw; obtain ⟨s0, s1, s2, s3⟩ := hSw; go_simp)⟩) hHeld ?_
    try simp only [List.getElem_toArray, List.getElem_cons_zero, List.getElem_cons_succ, Act.put, List.setIfInBounds_toArray, List.set_cons_zero, List.set_cons_succ]
    refine wpAnyH_take (i := 8) (v := (.agg #[.slice B n d, .int .i64 a, .slice none 0 0, .slice none 0 0, .slice none 0 0, .slice none 0 0, .slice none 0 0, .slice none 0 0, .slice none 0 0, .slice none 0 0, .slice none 0 0, .slice none 0 0, .slice none 0 0, .slice none 0 0, .slice none 0 0, .slice none 0 0, .slice none 0 0, .slice none 0 0, .slice none 0 0, .slice none 0 0, .slice none 0 0, .slice none 0 0, .slice none 0 0, .slice none 0 0, .slice none 0 0, .slice none 0 0, .slice none 0 0, .slice none 0 0, .slice none 0 0, .int .i64 fk, .int .i64 fa, .int .i64 0, .slice none 0 0])) rfl (by kernel_rfl) (by kernel_rfl) (by kernel_rfl) (fun _ _ _ h => h) (Or.inl ⟨by rfl, by (intro w hSw; obtain ⟨s0, s1, s2, s3⟩ := hSw; go_simp)⟩) hHeld ?_
    try simp only [List.getElem_toArray, List.getElem_cons_zero, List.getElem_cons_succ, Act.put, List.setIfInBounds_toArray, List.set_cons_zero, List.set_cons_succ]
    refine wpAnyH_take (i := 9) (v := (.pointer (some ⟨w1.heap.size, 0, none⟩))) rfl (by kernel_rfl) (by kernel_rfl) (by kernel_rfl) (fun _ _ _ h => h) (Or.inl ⟨by rfl, by (intro w hSw; obtain ⟨s0, s1, s2, s3⟩ := hSw; go_simp)⟩) hHeld ?_
    try simp only [List.getElem_toArray, List.getElem_cons_zero, List.getElem_cons_succ, Act.put, List.setIfInBounds_toArray, List.set_cons_zero, List.set_cons_succ]
    refine wpAnyH_take (i := 10) (v := (.pointer (some ⟨w1.heap.size, 34, none⟩))) rfl (by kernel_rfl) (by kernel_rfl) (by kernel_rfl) (fun _ _ _ h => h) (Or.inl ⟨by rfl, by (intro w hSw; obtain ⟨s0, s1, s2, s3⟩ := hSw; go_simp)⟩) hHeld ?_
    try simp only [List.getElem_toArray, List.getElem_cons_zero, List.getElem_cons_succ, Act.put, List.setIfInBounds_toArray, List.set_cons_zero, List.set_cons_succ]
    refine wpAnyH_ready (rs := [11]) (by kernel_rfl) (by simp) ?_
    refine AllReadyH.cons rfl (fun K hK => ?_) AllReadyH.nil
    refine step_store_at rfl 33 (.tmp 44) (.tmp 42) rfl w1.heap.size 34 (res1 (.slice B n d) a fk fa) rfl rfl 57 _ hb3 (res_size (res1_size _ _ _ _)) (by rw [hd0.out, res1_size]; exact Nat.le_refl 67) (res1_one _ _ _ _ _ _) ?_
    have hxs : Ext w1 (w3.setRow w1.heap.size (seg (doer0 A n c a rs k1 k2 k3 k4 k5) 34 (res1 (.slice B n d) a fk fa))) := ((hx2.out.trans (Ext.drew w2)).trans hx3).setRow (Nat.le_refl _) _
    have hbs := hb3.setRow (seg (doer0 A n c a rs k1 k2 k3 k4 k5) 34 (res1 (.slice B n d) a fk fa))
    have hos := Own.setRow (Own.lower hO3 (show w1.heap.size + 1 ≤ w2.drew.heap.size from hs2)) (Nat.lt_succ_self _) (seg (doer0 A n c a rs k1 k2 k3 k4 k5) 34 (res1 (.slice B n d) a fk fa))
    have HX3 := Lib.hid hxs
    have HB3 := Lib.hid hbs
    have HO3 := Lib.hid (And.intro hos hB3)
    refine hK.out _ _ ?_ (fun hHeld => ?_)
    · exact ⟨hxs.cell (C0.out.cell 0), hxs.cell (C0.out.cell 1), hxs.cell (C2.out.cell 0), hxs.cell (C2.out.cell 1)⟩
    clear hK K hxs hbs hos
    try simp only [List.getElem_toArray, List.getElem_cons_zero, List.getElem_cons_succ, Act.put, List.setIfInBounds_toArray, List.set_cons_zero, List.set_cons_succ]
    refine wpAnyH_done (by kernel_rfl) ?_ _
    try go_wp2_with fail
    go_meet
    exact ⟨B, d, HB3, HO3, HX3⟩
  case rest =>
    obtain ⟨B, d, HB, HO, HE⟩ := hcut
    clear x0 x1 z0 z1 HCl D9 hx2
    obtain ⟨S0, hS0⟩ : ∃ S, seg (doer0 A n c a rs k1 k2 k3 k4 k5) 34 (res1 (.slice B n d) a fk fa) = S := ⟨_, rfl⟩
    have hz0 : S0.size = 67 := by rw [← hS0, seg_size (by rw [hd0.out, res1_size]; exact Nat.le_refl 67)]; exact hd0.out
    have hn0 : ∀ j, j < 27 → S0[36 + j]? = some (.slice none 0 0) := fun j hj => by
      rw [← hS0, seg_get (by rw [hd0.out, res1_size]; exact Nat.le_refl 67), if_neg (by omega), res1_size, if_pos (by omega), show 36 + j - 34 = 2 + j by omega]
      match j, hj with
      | 0, _ => rfl | 1, _ => rfl | 2, _ => rfl | 3, _ => rfl | 4, _ => rfl | 5, _ => rfl | 6, _ => rfl | 7, _ => rfl | 8, _ => rfl | 9, _ => rfl | 10, _ => rfl | 11, _ => rfl | 12, _ => rfl | 13, _ => rfl | 14, _ => rfl | 15, _ => rfl | 16, _ => rfl | 17, _ => rfl | 18, _ => rfl | 19, _ => rfl | 20, _ => rfl | 21, _ => rfl | 22, _ => rfl | 23, _ => rfl | 24, _ => rfl | 25, _ => rfl | 26, _ => rfl
      | j + 27, h => exact absurd h (by omega)
    have HS0 := Lib.hid hS0
    rw [hS0] at HB
    have HZ := Lib.hid (And.intro hz0 hn0)
    clear hS0 hz0 hn0 hd0
    go_wp2_with fail
    go_loopw [45] (fun s45 wx => ∃ (i : Nat) (cs : Array Value), i ≤ 27 ∧ s45 = .int .i64 i ∧ Hid (Blk wx w1.heap.size 57 cs) ∧ Hid (cs.size = 67 ∧ (∀ k, k < 36 ∨ 63 ≤ k → cs[k]? = S0[k]?) ∧ (∀ j, j < i → ∃ v, cs[36 + j]? = some v ∧ RegOw wx (w1.heap.size + 1) v (rl j)) ∧ (∀ j, i ≤ j → j < 27 → cs[36 + j]? = some (.slice none 0 0))) ∧ Hid (OwnI wx (w1.heap.size + 1) B n d l) ∧ Hid (Ext w1 wx) ∧ Hid (∀ j, j < i → ∀ v, cs[36 + j]? = some v → ∀ g', (Value.slice B n d).ownBlock = some g' → v.ownBlock ≠ some g')) (fun s45 _ => 27 - (intOf s45).toNat)
    case atStart => exact ⟨0, S0, by omega, rfl, HB, Lib.hid ⟨HZ.out.1, fun _ _ => rfl, fun j hj => by omega, fun j _ hj => HZ.out.2 j hj⟩, Lib.hid HO.out.1, HE, Lib.hid (fun j hj => absurd hj (Nat.not_lt_zero j))⟩
    case round =>
      have HBn := Lib.hid HO.out.2
      clear HB HO HE
      obtain ⟨i, cs, hi, rfl, HB, HI, HO, HE, HFr⟩ := hrel
      by_cases hlt : i < 27
      · obtain ⟨v, hv, A2, n2, c2, rfl, hI2, hA2, hn2⟩ := HR.out.2 i hlt
        have hc : wr.cell? ⟨w.heap.size + 1, i, none⟩ = some (.slice A2 n2 c2) := by rw [(C1.out.ext HE.out).cell i]; exact hv
        have HC := Lib.hid (clone_ok (hI2.ext ((CX.out.trans HE.out).trans (Ext.drew wr))) hA2 hn2)
        have HA2 := Lib.hid hn2
        clear hv hI2 hA2 hn2
        go_upto_region 11 with fail
        go_region_law (first
          | (refine step_callf rfl 21 #[.slice A2 n2 c2] rfl (by kernel_rfl) (fun v w' => ∃ B d, v = .slice B n2 d ∧ OwnI w' wr.drew.heap.size B n2 d (rl i) ∧ (B = none → d = 0) ∧ Ext wr.drew w') (HC.out.mono fun e w' ⟨B, d, h1, h2, h3, h4⟩ => ⟨_, h1, B, d, rfl, h2, h3, h4⟩) ?_
             rintro v w3 ⟨B2, d2, rfl, hO3, hB3, hx3⟩
             have hb3 := (HB.out.ext (Ext.drew wr)).ext hx3
             have c36 : w3.cell? ⟨w1.heap.size, 36 + i, none⟩ = some (.slice none 0 0) := by rw [hb3.cell]; exact HI.out.2.2.2 i (Nat.le_refl _) hlt
             have f36 := hb3.frozen (36 + i)))
        all_goals
          have hxx := (Ext.drew wr).trans hx3
          have HB2 := Lib.hid (hb3.set_ (36 + i) (.slice B2 n2 d2))
          have HE2 := Lib.hid ((HE.out.trans hxx).setCell (p := ⟨w1.heap.size, 36 + i, none⟩) (Nat.le_refl _) (.slice B2 n2 d2))
          have HO2 := Lib.hid (Own.setCell (Own.ext HO.out hxx) (p := ⟨w1.heap.size, 36 + i, none⟩) (Nat.lt_succ_self _) (.slice B2 n2 d2))
          have hgs : w1.heap.size + 1 ≤ wr.heap.size := HB.out.lt
          have HR2 : Hid (RegOw (w3.setCell ⟨w1.heap.size, 36 + i, none⟩ (.slice B2 n2 d2)) (w1.heap.size + 1) (.slice B2 n2 d2) (rl i)) := Lib.hid (RegOw.setCell ⟨B2, n2, d2, rfl, Own.lower hO3 (show w1.heap.size + 1 ≤ wr.drew.heap.size from hgs), hB3, HA2.out⟩ (Nat.lt_succ_self _) _)
          have HI2 : Hid ((cs.setIfInBounds (36 + i) (.slice B2 n2 d2)).size = 67 ∧ (∀ k, k < 36 ∨ 63 ≤ k → (cs.setIfInBounds (36 + i) (.slice B2 n2 d2))[k]? = S0[k]?) ∧ (∀ j, j < i + 1 → ∃ v, (cs.setIfInBounds (36 + i) (.slice B2 n2 d2))[36 + j]? = some v ∧ RegOw (w3.setCell ⟨w1.heap.size, 36 + i, none⟩ (.slice B2 n2 d2)) (w1.heap.size + 1) v (rl j)) ∧ (∀ j, i + 1 ≤ j → j < 27 → (cs.setIfInBounds (36 + i) (.slice B2 n2 d2))[36 + j]? = some (.slice none 0 0))) := Lib.hid (by
            refine ⟨by simpa using HI.out.1, fun k hk => ?_, fun j hj => ?_, fun j h1 h2 => ?_⟩
            · rw [Array.getElem?_setIfInBounds_ne (by omega)]; exact HI.out.2.1 k hk
            · by_cases hji : j = i
              · subst hji
                exact ⟨_, by rw [Array.getElem?_setIfInBounds_self, if_pos (by have := HI.out.1; omega)], HR2.out⟩
              · obtain ⟨v, h1, h2⟩ := HI.out.2.2.1 j (by omega)
                exact ⟨v, by rw [Array.getElem?_setIfInBounds_ne (by omega)]; exact h1, (h2.ext hxx).setCell (p := ⟨w1.heap.size, 36 + i, none⟩) (Nat.lt_succ_self _) _⟩
            · rw [Array.getElem?_setIfInBounds_ne (by omega)]; exact HI.out.2.2.2 j (by omega) h2)
          have HFr2 : Hid (∀ j, j < i + 1 → ∀ v, (cs.setIfInBounds (36 + i) (.slice B2 n2 d2))[36 + j]? = some v → ∀ g', (Value.slice B n d).ownBlock = some g' → v.ownBlock ≠ some g') := Lib.hid (fun j hj v hv g' hg' => by
            by_cases hji : j = i
            · subst hji
              rw [Array.getElem?_setIfInBounds_self, if_pos (by have := HI.out.1; omega)] at hv
              injection hv with hv
              subst hv
              intro h
              have h1 := (Own.blk hO3 g' h).1
              have h2 := (Own.blk HO.out g' hg').2
              have h3 : wr.heap.size ≤ g' := h1
              omega
            · rw [Array.getElem?_setIfInBounds_ne (by omega)] at hv
              exact HFr.out j (by omega) v hv g' hg')
          clear hb3 c36 f36 hx3 hxx hO3 hB3 hc HC HB HI HO HE HA2 HR2 hgs HFr
          go_wp2_with fail
          go_roundw
          case rel => exact ⟨i + 1, _, by omega, by go_num, HB2, HI2, HO2, HE2, HFr2⟩
          case measure => simp [intOf]; omega
      · obtain rfl : i = 27 := by omega
        obtain ⟨z0, z1⟩ := cells2L (C2.out.ext HE.out)
        go_upto_block 2 with fail
        go_cut [] (fun wx => wx = wr ∧ Hid (fk = 0 ∨ fk = 102 ∨ fk = 70 ∨ fk = 116 ∨ fk = 84))
        case first =>
          by_cases hfk : fk = 0 ∨ fk = 102 ∨ fk = 70 ∨ fk = 116 ∨ fk = 84
          · have HFK := Lib.hid hfk
            rcases hfk with rfl | rfl | rfl | rfl | rfl <;> (go_wp2_with fail; go_meet; exact ⟨rfl, HFK⟩)
          · have HNF := Lib.hid hfk
            have q0 : (fk == 0) = false := by simp; omega
            have q1 : (fk == 102) = false := by simp; omega
            have q2 : (fk == 70) = false := by simp; omega
            have q3 : (fk == 116) = false := by simp; omega
            have q4 : (fk == 84) = false := by simp; omega
            have B4 := Lib.hid (C4.out.ext HE.out)
            have HX4 := Lib.hid (CX.out.trans HE.out)
            clear hfk
            go_wp2_with (refine wpList_store_row rfl 33 (.tmp 8) _ rfl (w.heap.size + 1 + 1 + 1 + 1) resZ rfl rfl 33 resZ B4.out (res_size rfl) rfl resZ_one ?_)
            have hres := B4.out.setRow resZ
            refine bodyPost_ret (v := .tuple #[.agg resZ, .int .i64 1]) ?_ rfl ⟨Ext.setRow HX4.out (by omega) _, .inl ⟨fun h => HNF.out h.1.1, 1, by decide, rfl⟩⟩
            exact results_row_tmp rfl _ _ (w.heap.size + 1 + 1 + 1 + 1) 33 _ _ _ _ rfl rfl hres Try.underlying33 rfl (res_size rfl)
        case rest =>
          obtain ⟨hcut, HFK⟩ := hcut
          generalize wc = wd at *
          subst hcut
          clear z0 z1
          obtain ⟨y0, y1, y2, y3, y4⟩ := cells5 (C3.out.ext HE.out)
          go_upto_block 3 with fail
          go_cut [] (fun wx => wx = wd ∧ Hid (k3 = 0 ∨ k3 = 100 ∨ k3 = 99 ∨ k3 = 121))
          case first =>
            by_cases hk3 : k3 = 0 ∨ k3 = 100 ∨ k3 = 99 ∨ k3 = 121
            · have HK3 := Lib.hid hk3
              rcases hk3 with rfl | rfl | rfl | rfl <;> (go_wp2_with fail; go_meet; exact ⟨rfl, HK3⟩)
            · have HNF := Lib.hid hk3
              have q0 : (k3 == 0) = false := by simp; omega
              have q1 : (k3 == 100) = false := by simp; omega
              have q2 : (k3 == 99) = false := by simp; omega
              have q3 : (k3 == 121) = false := by simp; omega
              have B4 := Lib.hid (C4.out.ext HE.out)
              have HX4 := Lib.hid (CX.out.trans HE.out)
              clear hk3
              go_wp2_with (refine wpList_store_row rfl 33 (.tmp 8) _ rfl (w.heap.size + 1 + 1 + 1 + 1) resZ rfl rfl 33 resZ B4.out (res_size rfl) rfl resZ_one ?_)
              have hres := B4.out.setRow resZ
              refine bodyPost_ret (v := .tuple #[.agg resZ, .int .i64 9]) ?_ rfl ⟨Ext.setRow HX4.out (by omega) _, .inl ⟨fun h => HNF.out h.1.2, 9, by decide, rfl⟩⟩
              exact results_row_tmp rfl _ _ (w.heap.size + 1 + 1 + 1 + 1) 33 _ _ _ _ rfl rfl hres Try.underlying33 rfl (res_size rfl)
          case rest =>
            obtain ⟨hcut, HK3⟩ := hcut
            generalize wc = wd2 at *
            subst hcut
            clear y0 y1 y2 y3 y4
            have hd0 := doer0_size (A := A) (n := n) (c := c) (a := a) (k1 := k1) (k2 := k2) (k3 := k3) (k4 := k4) (k5 := k5) hrs.out
            have hsg : 34 + (res1 (.slice B n d) a fk fa).size ≤ (doer0 A n c a rs k1 k2 k3 k4 k5).size := by rw [hd0, res1_size]; exact Nat.le_refl 67
            have hlo : ∀ k, k < 34 → cs[k]? = (doer0 A n c a rs k1 k2 k3 k4 k5)[k]? := fun k hk => by rw [HI.out.2.1 k (.inl (by omega)), ← HS0.out, seg_get hsg, if_pos hk]
            have hhi : ∀ k, 34 ≤ k → k < 67 → (k < 36 ∨ 63 ≤ k) → cs[k]? = (res1 (.slice B n d) a fk fa)[k - 34]? := fun k h1 h2 h3 => by rw [HI.out.2.1 k h3, ← HS0.out, seg_get hsg, if_neg (by omega), if_pos (by rw [res1_size]; omega)]
            have hmid : ∀ k, 29 ≤ k → k < 34 → (doer0 A n c a rs k1 k2 k3 k4 k5)[k]? = (#[.int .i64 k1, .int .i64 k2, .int .i64 k3, .int .i64 k4, .int .i64 k5] : Array Value)[k - 29]? := fun k h1 h2 => by
              have hr := hrs.out
              simp only [doer0, Array.getElem?_append, Array.size_append, hr, List.size_toArray, List.length_cons, List.length_nil]
              rw [if_pos (by omega), if_neg (by omega)]
            have HD : Hid (DoerIs wd2 w1.heap.size cs A n c a rs rl k1 k2 k3 k4 k5 fk fa B d) := Lib.hid
              { size := HI.out.1
                text := by
                  have hr := hrs.out
                  rw [hlo 0 (by omega)]
                  simp only [doer0, Array.getElem?_append, Array.size_append, hr, List.size_toArray, List.length_cons, List.length_nil]
                  rw [if_pos (by omega), if_pos (by omega), if_pos (by omega)]
                  rfl
                at_ := by
                  have hr := hrs.out
                  rw [hlo 1 (by omega)]
                  simp only [doer0, Array.getElem?_append, Array.size_append, hr, List.size_toArray, List.length_cons, List.length_nil]
                  rw [if_pos (by omega), if_pos (by omega), if_pos (by omega)]
                  rfl
                regs := fun j hj => by
                  have hr := hrs.out
                  rw [hlo (2 + j) (by omega)]
                  simp only [doer0, Array.getElem?_append, Array.size_append, hr, List.size_toArray, List.length_cons, List.length_nil]
                  rw [if_pos (by omega), if_pos (by omega), if_neg (by omega), show 2 + j - 2 = j by omega]
                c29 := by rw [hlo 29 (by omega), hmid 29 (by omega) (by omega)]; rfl
                c30 := by rw [hlo 30 (by omega), hmid 30 (by omega) (by omega)]; rfl
                c31 := by rw [hlo 31 (by omega), hmid 31 (by omega) (by omega)]; rfl
                c32 := by rw [hlo 32 (by omega), hmid 32 (by omega) (by omega)]; rfl
                c33 := by rw [hlo 33 (by omega), hmid 33 (by omega) (by omega)]; rfl
                out := by rw [hhi 34 (by omega) (by omega) (by omega)]; rfl
                oat := by rw [hhi 35 (by omega) (by omega) (by omega)]; rfl
                oregs := HI.out.2.2.1
                far := HFr.out
                c63 := by rw [hhi 63 (by omega) (by omega) (by omega)]; rfl
                c64 := by rw [hhi 64 (by omega) (by omega) (by omega)]; rfl
                c65 := by rw [hhi 65 (by omega) (by omega) (by omega)]; rfl
                c66 := by rw [hhi 66 (by omega) (by omega) (by omega)]; rfl }
            have HC := Lib.hid (HH1.out ⟨HFK.out, HK3.out⟩ wd2 w1.heap.size cs B d (CX.out.trans HE.out) (by omega) HB.out HD.out HO.out HBn.out)
            have C4d := Lib.hid (C4.out.ext HE.out)
            have HXd := Lib.hid (CX.out.trans HE.out)
            clear hd0 hsg hlo hhi hmid HH1 HD HB HI HO HE C0 C1 C2 C3 C4 CX HZ HS0 HBn HL HA HR hrs
            go_wp2_with fail
            refine HC.out.mono ?_
            rintro e w4 ⟨er, cs', rfl, hgr, hOk, hok⟩
            have HNo := Lib.hid hOk
            have B4 := Lib.hid (Blk.grown C4d.out hgr (fun e => by injection e with e; omega))
            have HX4 := Lib.hid (Below.grown HXd.out hgr HXd.out.hsize (fun k e => by injection e with e; omega))
            have HOK := Lib.hid hok
            clear HC C4d HXd hgr hok hOk
            by_cases her : er = 0
            · subst her
              obtain ⟨hb, hz, ho, hp⟩ := HOK.out rfl
              have hvs : (cs'.extract 34 67).size = 33 := by simp [hz]
              have HV : Hid (∀ j v, (cs'.extract 34 67)[j]? = some v → cs'[34 + j]? = some v) := Lib.hid (fun j v hj => by
                rw [Array.getElem?_extract] at hj
                split at hj
                · exact hj
                · cases hj)
              have H1V : Hid ((cs'.extract 34 67).all (·.oneCell') = true) := Lib.hid (by
                rw [Array.all_eq_true_iff_forall_mem]
                intro v hv
                obtain ⟨j, hj⟩ := Array.mem_iff_getElem?.1 hv
                exact ho (34 + j) v (by omega) (HV.out j v hj))
              have HSz := Lib.hid hvs
              have HBd := Lib.hid hb
              have HPo := Lib.hid hp
              have HZ' := Lib.hid hz
              clear hb hz ho hp hvs HOK
              go_wp2_with ((refine wpList_load_at rfl 33 (.tmp 84) rfl w1.heap.size 34 rfl 57 cs' (cs'.extract 34 67) (0, 0) _ HBd.out HV.out Try.underlying33 rfl (res_size HSz.out) ?_)
                <;> (refine wpList_store_row rfl 33 (.tmp 8) (.tmp 85) rfl (w.heap.size + 1 + 1 + 1 + 1) (cs'.extract 34 67) rfl rfl 33 resZ B4.out (res_size HSz.out) (by rw [HSz.out]; rfl) H1V.out ?_))
              have hres := B4.out.setRow (cs'.extract 34 67)
              refine bodyPost_ret (v := .tuple #[.agg (cs'.extract 34 67), .int .i64 0]) ?_ rfl ⟨Ext.setRow HX4.out (by omega) _, .inr ⟨cs', HZ'.out, H1V.out, rfl, HPP.out _ _ _ HPo.out (setRow_grown _ _ _)⟩⟩
              exact results_row_tmp rfl _ _ (w.heap.size + 1 + 1 + 1 + 1) 33 _ _ _ _ rfl rfl hres Try.underlying33 rfl (res_size HSz.out)
            · go_wp2_with (refine wpList_store_row rfl 33 (.tmp 8) _ rfl (w.heap.size + 1 + 1 + 1 + 1) resZ rfl rfl 33 resZ B4.out (res_size rfl) rfl resZ_one ?_)
              have hres := B4.out.setRow resZ
              refine bodyPost_ret (v := .tuple #[.agg resZ, .int .i64 er]) ?_ rfl ⟨Ext.setRow HX4.out (by omega) _, .inl ⟨fun h => her (HNo.out h.2), er, her, rfl⟩⟩
              exact results_row_tmp rfl _ _ (w.heap.size + 1 + 1 + 1 + 1) 33 _ _ _ _ rfl rfl hres Try.underlying33 rfl (res_size rfl)
theorem do_walk {w : World} {A : Option Addr} {n c : Nat} {a fk fa k1 k2 k3 k4 k5 : Int} {l : List Int} {rs : Array Value} {rl : Nat → List Int} {Ok : Prop} {Post : World → Array Value → Prop} (hl : Ints w A n c l) (hA : A = none → c = 0) (hr : Regs w rs rl) (hn : n ≤ 200) (ha : 0 ≤ a) (ha2 : a ≤ max 0 ((n : Int) - 1)) (hk : 0 ≤ k1) (hk2 : k1 ≤ 999)
    (hfk : fk = 0 ∨ fk = 102 ∨ fk = 70 ∨ fk = 116 ∨ fk = 84) (hk3 : k3 = 0 ∨ k3 = 100 ∨ k3 = 99 ∨ k3 = 121)
    (hP : ∀ w1 w2 cs, Post w1 cs → w1.grownBy w2 (some (w.heap.size + 1 + 1 + 1 + 1)) → Post w2 cs)
    (H1 : ∀ (wz : World) (g : Nat) (cs : Array Value) (B : Option Addr) (d : Nat), Ext w wz → w.heap.size + 5 ≤ g → Blk wz g 57 cs → DoerIs wz g cs A n c a rs rl k1 k2 k3 k4 k5 fk fa B d → OwnI wz (g + 1) B n d l → (B = none → d = 0) →
      Calls Try.prog 22 #[.pointer (some ⟨g, 0, none⟩)] wz (DoneIs g wz Ok Post)) :
    Calls Try.prog 8 #[.agg #[.slice A n c, .int .i64 a], .agg rs, .agg #[.int .i64 fk, .int .i64 fa], .agg #[.int .i64 k1, .int .i64 k2, .int .i64 k3, .int .i64 k4, .int .i64 k5]] w (DidIs w Ok Post) :=
  (do_walkF hl hA hr hn ha ha2 hk hk2 hP (fun _ => H1)).mono fun e w' ⟨h1, h2⟩ => ⟨h1, h2.imp (fun ⟨h3, h4⟩ => ⟨fun h => h3 ⟨⟨hfk, hk3⟩, h⟩, h4⟩) id⟩
end Go.Proofs.Ytmhgndjmcignjaa
