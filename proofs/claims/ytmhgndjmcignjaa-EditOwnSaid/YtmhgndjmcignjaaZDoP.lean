/-
  The doer's put: a text in the place of some characters.
-/
import Derived.Test.YtmhgndjmcignjaaZDoB
import Derived.Test.YtmhgndjmcignjaaZJ11
import Derived.Test.YtmhgndjmcignjaaZConc

namespace Go.Proofs.Ytmhgndjmcignjaa
open Go.RowKit
set_option linter.unusedVariables false
set_option linter.unusedSimpArgs false

theorem between_e {l m : List Int} {A B : Option Addr} {n c q d : Nat} {w : World} (hl : Ints w A n c l) (hm : Ints w B q d m) (hB : B = none → d = 0) (hn : n ≤ 4096) (hq : q ≤ 4096) :
    Calls Try.prog 57 #[.slice A n c, .slice B q d] w fun e' w' => ∃ O k z e, e' = .returned (.tuple #[.slice O k z, .int .i64 0]) ∧ EdOwn w' w.heap.size (.slice O k z) e ∧ (∃ k j, btw l m k j ∧ ((k = n ∧ k = q ∧ e = []) ∨ (¬ (k = n ∧ k = q) ∧ e = [btwS l m k j]))) ∧ Ext w w' :=
  (between_own hl hm hB hn hq).mono fun e' w' ⟨⟨k, j, h1, h2⟩, h3⟩ => by
    rcases h2 with ⟨h4, h5, rfl⟩ | ⟨h4, g, rfl, h5⟩
    · exact ⟨none, 0, 0, [], rfl, EdOwn.nil _ _, ⟨k, j, h1, .inl ⟨h4, h5, rfl⟩⟩, h3⟩
    · exact ⟨_, _, _, _, rfl, h5, ⟨k, j, h1, .inr ⟨h4, rfl⟩⟩, h3⟩
/-- The Edit that makes one line of another. -/
def EdMakes (l m : List Int) (e : List Spl) : Prop := ∃ k j, btw l m k j ∧ ((k = l.length ∧ k = m.length ∧ e = []) ∨ (¬ (k = l.length ∧ k = m.length) ∧ e = [btwS l m k j]))
/-- What put leaves. -/
def PutIs (w : World) (g : Nat) (cs : Array Value) (l m : List Int) (w' : World) : Prop :=
  w.grownBy w' (some g) ∧ ∃ B q b O k z e, Blk w' g 57 ((cs.setIfInBounds 66 (.slice O k z)).setIfInBounds 34 (.slice B q b)) ∧ OwnI w' w.heap.size B q b m ∧ EdOwn w' w.heap.size (.slice O k z) e ∧ EdMakes l m e ∧ ∀ g', (Value.slice B q b).ownBlock = some g' → EdOwn w' (g' + 1) (.slice O k z) e

set_option maxRecDepth 20000 in
set_option maxHeartbeats 4000000 in
theorem put_doer {w : World} {g n c f t m d : Nat} {cs : Array Value} {A T : Option Addr} {l x : List Int} {v34 v66 : Value} (hb : Blk w g 57 cs) (h0 : cs[0]? = some (.slice A n c)) (h34 : cs[34]? = some v34) (h66 : cs[66]? = some v66) (hl : Ints w A n c l) (hx : Ints w T m d x) (hT : T = none → d = 0)
    (hft : f ≤ t) (htn : t ≤ n) (hn : n ≤ 200) (hm : m ≤ 3000) :
    Calls Try.prog 45 #[.pointer (some ⟨g, 0, none⟩), .int .i64 (f : Int), .int .i64 (t : Int), .slice T m d] w fun e w' => (∃ u, e = .returned u) ∧ PutIs w g cs l (l.take f ++ x ++ l.drop t) w' := by
  have hln := hl.len
  have hxl := hx.len
  have hnc := hl.ncap
  have hcm := hl.nmax
  unfold maxLen at hcm
  obtain ⟨T2, hT2⟩ : ∃ T2, (if c = t then A else Option.map (fun x => x.add t) A) = T2 := ⟨_, rfl⟩
  have HC : Hid (Calls Try.prog 11 #[.slice (some ⟨w.heap.size, 0, none⟩) 3 3] (w.drew.alloc (.cells #[.slice A f c, .slice T m d, .slice T2 (n - t) (c - t)] 22)) fun e w' => ∃ B q b, e = .returned (.slice B q b) ∧ OwnI w' w.heap.size B q b (l.take f ++ x ++ l.drop t) ∧ Ext w w') := Lib.hid (by
    have he : Ext w (w.drew.alloc (.cells #[.slice A f c, .slice T m d, .slice T2 (n - t) (c - t)] 22)) := (Ext.drew w).to_alloc _
    have hl' := hl.ext he
    have hS : Rd (w.drew.alloc (.cells #[.slice A f c, .slice T m d, .slice T2 (n - t) (c - t)] 22)) 1 (some ⟨w.heap.size, 0, none⟩) 3 3 [.slice A f c, .slice T m d, .slice T2 (n - t) (c - t)] := Rd.litAt w.drew 22 _ rfl rfl (by omega)
    have h1 := concat_ok hS (Lists.three (hl'.front (k := f) (by omega)) (hx.ext he) (by have h := hl'.cut htn (Nat.le_refl n); rw [hT2] at h; exact h)) rfl (by
      simp
      omega)
    refine h1.mono fun e w' ⟨B, q, b, h2, h3, h4⟩ => ⟨B, q, b, h2, ?_, he.trans h4⟩
    have : (l.take f :: x :: [(l.drop t).take (n - t)]).flatten = l.take f ++ x ++ l.drop t := by
      have hh : (l.drop t).take (n - t) = l.drop t := List.take_of_length_le (by rw [List.length_drop, hln]; exact Nat.le_refl _)
      rw [hh]
      simp
    rw [← this]
    exact Own.lower h3 he.hsize)
  have x0 : w.cell? ⟨g, 0, none⟩ = some (.slice A n c) := (hb.cell 0).trans h0
  have hgw := hb.lt
  have HB := Lib.hid hb
  have HL := Lib.hid hl
  have H34 := Lib.hid h34
  have H66 := Lib.hid h66
  have HMl : Hid ((l.take f ++ x ++ l.drop t).length ≤ 4096) := Lib.hid (by simp; omega)
  have Hln := Lib.hid hln
  have hfc : f ≤ c := by omega
  have htc : t ≤ c := by omega
  have hfn : f ≤ n := by omega
  clear hb h0 h34 h66 hl hx hT hln hxl hm
  go_enter Try.func45, Try.ntmps45
  go_upto_region 0 with fail
  refine wp_region_held_drew (S := fun w' => w'.cell? ⟨g, 0, none⟩ = some (.slice A n c)) (by kernel_rfl) x0 (fun hHeld => ?_)
  refine wpAnyH_take (i := 0) (v := (.pointer (some ⟨g, 0, none⟩))) rfl (by kernel_rfl) (by kernel_rfl) (by kernel_rfl) (fun _ _ _ h => h) (Or.inl ⟨by rfl, by (intro w hSw; have hSw : w.cell? ⟨g, 0, none⟩ = some (.slice A n c) := hSw; go_simp)⟩) hHeld ?_
  try simp only [List.getElem_toArray, List.getElem_cons_zero, List.getElem_cons_succ, Act.put, List.setIfInBounds_toArray, List.set_cons_zero, List.set_cons_succ]
  refine wpAnyH_take (i := 1) (v := (.pointer (some ⟨g, 0, none⟩))) rfl (by kernel_rfl) (by kernel_rfl) (by kernel_rfl) (fun _ _ _ h => h) (Or.inl ⟨by rfl, by (intro w hSw; have hSw : w.cell? ⟨g, 0, none⟩ = some (.slice A n c) := hSw; go_simp)⟩) hHeld ?_
  try simp only [List.getElem_toArray, List.getElem_cons_zero, List.getElem_cons_succ, Act.put, List.setIfInBounds_toArray, List.set_cons_zero, List.set_cons_succ]
  refine wpAnyH_take (i := 2) (v := (.pointer (some ⟨g, 0, none⟩))) rfl (by kernel_rfl) (by kernel_rfl) (by kernel_rfl) (fun _ _ _ h => h) (Or.inl ⟨by rfl, by (intro w hSw; have hSw : w.cell? ⟨g, 0, none⟩ = some (.slice A n c) := hSw; go_simp)⟩) hHeld ?_
  try simp only [List.getElem_toArray, List.getElem_cons_zero, List.getElem_cons_succ, Act.put, List.setIfInBounds_toArray, List.set_cons_zero, List.set_cons_succ]
  refine wpAnyH_take (i := 3) (v := (.pointer (some ⟨g, 0, none⟩))) rfl (by kernel_rfl) (by kernel_rfl) (by kernel_rfl) (fun _ _ _ h => h) (Or.inl ⟨by rfl, by (intro w hSw; have hSw : w.cell? ⟨g, 0, none⟩ = some (.slice A n c) := hSw; go_simp)⟩) hHeld ?_
  try simp only [List.getElem_toArray, List.getElem_cons_zero, List.getElem_cons_succ, Act.put, List.setIfInBounds_toArray, List.set_cons_zero, List.set_cons_succ]
  refine wpAnyH_take (i := 4) (v := (.slice A n c)) rfl (by kernel_rfl) (by kernel_rfl) (by kernel_rfl) (fun _ _ _ h => h) (Or.inl ⟨by rfl, by (intro w hSw; have hSw : w.cell? ⟨g, 0, none⟩ = some (.slice A n c) := hSw; go_simp)⟩) hHeld ?_
  try simp only [List.getElem_toArray, List.getElem_cons_zero, List.getElem_cons_succ, Act.put, List.setIfInBounds_toArray, List.set_cons_zero, List.set_cons_succ]
  refine wpAnyH_take (i := 5) (v := (.int .i64 (f : Int))) rfl (by kernel_rfl) (by kernel_rfl) (by kernel_rfl) (fun _ _ _ h => h) (Or.inl ⟨by rfl, by (intro w hSw; have hSw : w.cell? ⟨g, 0, none⟩ = some (.slice A n c) := hSw; go_simp)⟩) hHeld ?_
  try simp only [List.getElem_toArray, List.getElem_cons_zero, List.getElem_cons_succ, Act.put, List.setIfInBounds_toArray, List.set_cons_zero, List.set_cons_succ]
  refine wpAnyH_take (i := 6) (v := (.slice A f c)) rfl (by kernel_rfl) (by kernel_rfl) (by kernel_rfl) (fun _ _ _ h => h) (Or.inl ⟨by rfl, by (intro w hSw; have hSw : w.cell? ⟨g, 0, none⟩ = some (.slice A n c) := hSw; go_simp)⟩) hHeld ?_
  try simp only [List.getElem_toArray, List.getElem_cons_zero, List.getElem_cons_succ, Act.put, List.setIfInBounds_toArray, List.set_cons_zero, List.set_cons_succ]
  refine wpAnyH_take (i := 7) (v := (.slice T m d)) rfl (by kernel_rfl) (by kernel_rfl) (by kernel_rfl) (fun _ _ _ h => h) (Or.inl ⟨by rfl, by (intro w hSw; have hSw : w.cell? ⟨g, 0, none⟩ = some (.slice A n c) := hSw; go_simp)⟩) hHeld ?_
  try simp only [List.getElem_toArray, List.getElem_cons_zero, List.getElem_cons_succ, Act.put, List.setIfInBounds_toArray, List.set_cons_zero, List.set_cons_succ]
  refine wpAnyH_take (i := 8) (v := (.pointer (some ⟨g, 0, none⟩))) rfl (by kernel_rfl) (by kernel_rfl) (by kernel_rfl) (fun _ _ _ h => h) (Or.inl ⟨by rfl, by (intro w hSw; have hSw : w.cell? ⟨g, 0, none⟩ = some (.slice A n c) := hSw; go_simp)⟩) hHeld ?_
  try simp only [List.getElem_toArray, List.getElem_cons_zero, List.getElem_cons_succ, Act.put, List.setIfInBounds_toArray, List.set_cons_zero, List.set_cons_succ]
  refine wpAnyH_take (i := 9) (v := (.pointer (some ⟨g, 0, none⟩))) rfl (by kernel_rfl) (by kernel_rfl) (by kernel_rfl) (fun _ _ _ h => h) (Or.inl ⟨by rfl, by (intro w hSw; have hSw : w.cell? ⟨g, 0, none⟩ = some (.slice A n c) := hSw; go_simp)⟩) hHeld ?_
  try simp only [List.getElem_toArray, List.getElem_cons_zero, List.getElem_cons_succ, Act.put, List.setIfInBounds_toArray, List.set_cons_zero, List.set_cons_succ]
  refine wpAnyH_take (i := 10) (v := (.pointer (some ⟨g, 0, none⟩))) rfl (by kernel_rfl) (by kernel_rfl) (by kernel_rfl) (fun _ _ _ h => h) (Or.inl ⟨by rfl, by (intro w hSw; have hSw : w.cell? ⟨g, 0, none⟩ = some (.slice A n c) := hSw; go_simp)⟩) hHeld ?_
  try simp only [List.getElem_toArray, List.getElem_cons_zero, List.getElem_cons_succ, Act.put, List.setIfInBounds_toArray, List.set_cons_zero, List.set_cons_succ]
  refine wpAnyH_take (i := 11) (v := (.pointer (some ⟨g, 0, none⟩))) rfl (by kernel_rfl) (by kernel_rfl) (by kernel_rfl) (fun _ _ _ h => h) (Or.inl ⟨by rfl, by (intro w hSw; have hSw : w.cell? ⟨g, 0, none⟩ = some (.slice A n c) := hSw; go_simp)⟩) hHeld ?_
  try simp only [List.getElem_toArray, List.getElem_cons_zero, List.getElem_cons_succ, Act.put, List.setIfInBounds_toArray, List.set_cons_zero, List.set_cons_succ]
  refine wpAnyH_take (i := 12) (v := (.slice A n c)) rfl (by kernel_rfl) (by kernel_rfl) (by kernel_rfl) (fun _ _ _ h => h) (Or.inl ⟨by rfl, by (intro w hSw; have hSw : w.cell? ⟨g, 0, none⟩ = some (.slice A n c) := hSw; go_simp)⟩) hHeld ?_
  try simp only [List.getElem_toArray, List.getElem_cons_zero, List.getElem_cons_succ, Act.put, List.setIfInBounds_toArray, List.set_cons_zero, List.set_cons_succ]
  refine wpAnyH_take (i := 13) (v := (.int .i64 (t : Int))) rfl (by kernel_rfl) (by kernel_rfl) (by kernel_rfl) (fun _ _ _ h => h) (Or.inl ⟨by rfl, by (intro w hSw; have hSw : w.cell? ⟨g, 0, none⟩ = some (.slice A n c) := hSw; go_simp)⟩) hHeld ?_
  try simp only [List.getElem_toArray, List.getElem_cons_zero, List.getElem_cons_succ, Act.put, List.setIfInBounds_toArray, List.set_cons_zero, List.set_cons_succ]
  refine wpAnyH_take (i := 14) (v := (.slice T2 (n - t) (c - t))) rfl (by kernel_rfl) (by kernel_rfl) (by kernel_rfl) (fun _ _ _ h => h) (Or.inl ⟨by rfl, by (intro w hSw; have hSw : w.cell? ⟨g, 0, none⟩ = some (.slice A n c) := hSw; go_simp)⟩) hHeld ?_
  try simp only [List.getElem_toArray, List.getElem_cons_zero, List.getElem_cons_succ, Act.put, List.setIfInBounds_toArray, List.set_cons_zero, List.set_cons_succ]
  refine wpAnyH_ready (rs := [15]) (by kernel_rfl) (by simp) ?_
  refine AllReadyH.cons rfl (fun K hK => ?_) AllReadyH.nil
  go_simp
  refine hK.out _ _ ((Ext.alloc w.drew _).cell x0) (fun hHeld2 => ?_)
  clear hK K hHeld
  try simp only [List.getElem_toArray, List.getElem_cons_zero, List.getElem_cons_succ, Act.put, List.setIfInBounds_toArray, List.set_cons_zero, List.set_cons_succ]
  refine wpAnyH_ready (rs := [16]) (by kernel_rfl) (by simp) ?_
  refine AllReadyH.cons rfl (fun K hK => ?_) AllReadyH.nil
  refine step_callf rfl 11 #[.slice (some ⟨w.heap.size, 0, none⟩) 3 3] rfl (by kernel_rfl) (fun v w' => ∃ B q b, v = .slice B q b ∧ OwnI w' w.heap.size B q b (l.take f ++ x ++ l.drop t) ∧ Ext w w') (HC.out.mono fun e w' ⟨B, q, b, h1, h2, h3⟩ => ⟨_, h1, B, q, b, rfl, h2, h3⟩) ?_
  rintro v w3 ⟨B, q, b, rfl, hO3, hx3⟩
  refine hK.out _ _ (hx3.cell x0) (fun hHeld3 => ?_)
  clear hK K hHeld2 hT2
  try simp only [List.getElem_toArray, List.getElem_cons_zero, List.getElem_cons_succ, Act.put, List.setIfInBounds_toArray, List.set_cons_zero, List.set_cons_succ]
  refine wpAnyH_take (i := 17) (v := (.slice B q b)) rfl (by kernel_rfl) (by kernel_rfl) (by kernel_rfl) (fun _ _ _ h => h) (Or.inl ⟨by rfl, by (intro w hSw; have hSw : w.cell? ⟨g, 0, none⟩ = some (.slice A n c) := hSw; go_simp)⟩) hHeld3 ?_
  try simp only [List.getElem_toArray, List.getElem_cons_zero, List.getElem_cons_succ, Act.put, List.setIfInBounds_toArray, List.set_cons_zero, List.set_cons_succ]
  refine wpAnyH_done (by kernel_rfl) ?_ _
  obtain ⟨M, hM⟩ : ∃ M, l.take f ++ x ++ l.drop t = M := ⟨_, rfl⟩
  rw [hM] at hO3 HMl
  have HMm := Lib.hid hM
  have hql := hO3.ints.len
  have HBe := Lib.hid (between_e (HL.out.ext hx3) hO3.ints (Own.nocap hO3) (by omega) (by have := HMl.out; omega))
  have HO3 := Lib.hid hO3
  have HX3 := Lib.hid hx3
  have HQl := Lib.hid hql
  clear hM hO3 hx3 hql HC x0
  go_wp2_with fail
  refine HBe.out.mono ?_
  rintro e' w4 ⟨O, k, z, ed, rfl, hed, hmk, hx4⟩
  have hb4 := (HB.out.ext HX3.out).ext hx4
  have c66 : w4.cell? ⟨g, 66, none⟩ = some v66 := (hb4.cell 66).trans H66.out
  have f66 := hb4.frozen 66
  have hb5 := hb4.set_ 66 (.slice O k z)
  have c34 : (w4.setCell ⟨g, 66, none⟩ (.slice O k z)).cell? ⟨g, 34, none⟩ = some v34 := by
    rw [hb5.cell 34, Array.getElem?_setIfInBounds_ne (by omega)]; exact H34.out
  have f34 := hb5.frozen 34
  have HB6 := Lib.hid (hb5.set_ 34 (.slice B q b))
  have HED := Lib.hid ((EdOwn.lower hed HX3.out.hsize).kept (set_grows w4 ⟨g, 66, none⟩ (.slice O k z)) (fun k e => by injection e with e; have e : g = k := e; omega) |>.kept (set_grows _ ⟨g, 34, none⟩ (.slice B q b)) (fun k e => by injection e with e; have e : g = k := e; omega))
  have HOW := Lib.hid (Own.setCell (Own.setCell (Own.ext HO3.out hx4) (p := ⟨g, 66, none⟩) hgw (.slice O k z)) (p := ⟨g, 34, none⟩) hgw (.slice B q b))
  have HGR := Lib.hid (grows_trans (grows_trans (ext_grows (HX3.out.trans hx4) (some g)) (set_grows w4 ⟨g, 66, none⟩ (.slice O k z))) (set_grows _ ⟨g, 34, none⟩ (.slice B q b)))
  have HMK : Hid (EdMakes l M ed) := Lib.hid (by
    obtain ⟨k', j', h1, h2⟩ := hmk
    refine ⟨k', j', h1, ?_⟩
    rw [Hln.out, HQl.out]
    exact h2)
  have HFr : Hid (∀ g', (Value.slice B q b).ownBlock = some g' → EdOwn ((w4.setCell ⟨g, 66, none⟩ (.slice O k z)).setCell ⟨g, 34, none⟩ (.slice B q b)) (g' + 1) (.slice O k z) ed) := Lib.hid (fun g' hg' => by
    obtain ⟨h1, h2⟩ := Own.blk HO3.out g' hg'
    exact ((EdOwn.lower hed h2).kept (set_grows w4 ⟨g, 66, none⟩ (.slice O k z)) (fun k e => by injection e with e; have e : g = k := e; omega)).kept (set_grows _ ⟨g, 34, none⟩ (.slice B q b)) (fun k e => by injection e with e; have e : g = k := e; omega))
  clear hed hmk hx4 hb4 hb5 HBe HB HL
  go_wp2_with fail
  go_end0
  exact ⟨⟨_, rfl⟩, HGR.out, B, q, b, O, k, z, ed, HB6.out, HMm.out ▸ HOW.out, HED.out, HMm.out ▸ HMK.out, HFr.out⟩
end Go.Proofs.Ytmhgndjmcignjaa
