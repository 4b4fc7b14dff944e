/-
  paint's joined signs: in memory; the walks of to, over, erase.
-/
import Derived.Test.YthphlghblmindaaPaiW
import Derived.Test.YthphlghblmindaaApp
import Derived.Test.YthphlghblmindaaPush
import Derived.Deep.RegionLaw
namespace Go.Proofs.Ythphlghblmindaa
open Go.RowKit
set_option linter.unusedVariables false
set_option linter.unusedSimpArgs false

/-- Joined signs in memory. -/
def JAt (w : World) (g : Nat) (B : Option Addr) (m d : Nat) (j : Nat × List Int) : Prop := ∃ S q r, Blk w g 80 #[.slice B m d, .int .i64 (j.1 : Int), .slice S q r] ∧ OwnI w (g + 1) S q r j.2
/-- What works on joined signs leaves. -/
def KeepsJ (w w' : World) (g : Nat) : Prop := ∀ w0 : World, Ext w0 w → w0.heap.size ≤ g → Ext w0 w'
theorem KeepsJ.trans {a b c : World} {g : Nat} (h : KeepsJ a b g) (k : KeepsJ b c g) : KeepsJ a c g := fun w0 h0 h1 => k w0 (h w0 h0 h1) h1
theorem KeepsJ.ext {a b : World} {g : Nat} (h : Ext a b) : KeepsJ a b g := fun w0 h0 _ => h0.trans h
theorem KeepsJ.set {w : World} {g i : Nat} {u : Value} : KeepsJ w (w.setCell ⟨g, i, none⟩ u) g := fun w0 h0 h1 => h0.setCell h1 _
theorem JAt.ext {w w' : World} {g : Nat} {B : Option Addr} {m d : Nat} {j : Nat × List Int} (h : JAt w g B m d j) (he : Ext w w') : JAt w' g B m d j :=
  let ⟨S, q, r, h1, h2⟩ := h; ⟨S, q, r, h1.ext he, OwnI.ext h2 he⟩
theorem cells3J {w : World} {g t : Nat} {u v s : Value} (h : Blk w g t #[u, v, s]) : w.cell? ⟨g, 0, none⟩ = some u ∧ w.cell? ⟨g, 1, none⟩ = some v ∧ w.cell? ⟨g, 2, none⟩ = some s := ⟨h.cell 0, h.cell 1, h.cell 2⟩
theorem way_short {b : List Int} {x y : Nat} (hx : x ≤ 120) (hy : y ≤ 120) : (wayL b x y).length ≤ 121 := by
  unfold wayL
  split
  · rw [List.length_take]; omega
  · split
    · rw [List.length_replicate]; omega
    · rw [List.length_cons, List.length_take]; omega

set_option maxRecDepth 20000 in
set_option maxHeartbeats 8000000 in
theorem to_ok {w0 w : World} {g m d k : Nat} {B : Option Addr} {b : List Int} {j : Nat × List Int} (h : JAt w g B m d j) (hb : Ints w0 B m d b) (hB : B = none → d = 0) (hx : Ext w0 w) (hg : w0.heap.size ≤ g) (hm : m ≤ 120) (hj : j.1 ≤ m) (hk : k ≤ m) (hz : j.2.length ≤ 1000000) :
    Calls Try.prog 44 #[.pointer (some ⟨g, 0, none⟩), .int .i64 k] w fun e w' => e = .returned (.pointer (some ⟨g, 0, none⟩)) ∧ JAt w' g B m d (toJ b j k) ∧ KeepsJ w w' g := by
  obtain ⟨i0, hi, hz0, hz1, hz2⟩ := info_parts info_int
  obtain ⟨x, sg⟩ := j
  have hj : x ≤ m := hj
  have hz : sg.length ≤ 1000000 := hz
  obtain ⟨S, q, r, hbk, hown⟩ := h
  have hbk : Blk w g 80 #[.slice B m d, .int .i64 (x : Int), .slice S q r] := hbk
  have hq : q ≤ 1000000 := by have : sg.length = q := (OwnI.ints hown).len; omega
  have hgw := hbk.lt
  have HW : Hid (∀ wq, Ext w0 wq → Calls Try.prog 64 #[.slice B m d, .int .i64 x, .int .i64 k] wq (WayIs wq (wayL b x k))) := Lib.hid fun wq he => way_ok (hb.ext he) hB hm hj hk
  have HWS := Lib.hid (way_short (b := b) (x := x) (y := k) (by omega) (by omega))
  have HBK := Lib.hid hbk
  have HOW := Lib.hid hown
  have HX := Lib.hid hx
  obtain ⟨c0, c1, c2⟩ := cells3J hbk
  have HOB : Hid (∀ k, (Value.slice S q r).ownBlock = some k → g + 1 ≤ k) := Lib.hid fun k hk => (Own.blk hown k hk).1
  clear hbk hown hb hB hz hx
  have hlen : Hid (toJ b (x, sg) k = (k, sg ++ wayL b x k)) := Lib.hid rfl
  go_enter Try.func44, Try.ntmps44
  go_wp2_with fail
  go_region_law (first
    | (refine step_callf rfl 64 #[.slice B m d, .int .i64 (x : Int), .int .i64 (k : Int)] rfl (by kernel_rfl) (fun v w' => ∃ R p r', v = .slice R p r' ∧ Ints w' R p r' (wayL b x k) ∧ Ext w.drew w') ((HW.out _ HX.out.to_drew).mono fun e w' ⟨⟨R, p, r', h1, h2⟩, h3⟩ => ⟨_, h1, R, p, r', rfl, h2, h3⟩) ?_
       rintro v w1 ⟨R, p, r', rfl, hI, he1⟩
       have hp : p ≤ 121 := by have h1 := HWS.out; rw [hI.len] at h1; exact h1
       have hbk1 := (HBK.out.ext (Ext.drew w)).ext he1
       obtain ⟨d0, d1, d2⟩ := cells3J hbk1
       have hown1 := OwnI.ext (OwnI.ext HOW.out (Ext.drew w)) he1
       have hx1 := HX.out.to_drew.trans he1
       have hg1 : g + 1 ≤ w1.heap.size := hbk1.lt)
    | (refine step_app rfl (.tmp 9) (.tmp 19) 22 rfl w0 (g + 1) 3 i0 _ 1 8 Try.underlying22 hi hz0 hz1 hz2 rfl (by decide) S q r _ rfl hown1 R p r' _ rfl hI hI.one (by unfold maxLen; omega) (by omega) hx1 (by omega) hg1 ?_
       intro S2 r2 w2 hO2 hgr hor hx2
       have hbk2 := hbk1.grown hgr (fun e => by have := HOB.out g e.symm; omega)
       obtain ⟨e0, e1, e2⟩ := cells3J hbk2
       have f2 := hbk2.frozen 2
       have hK2 : Hid (KeepsJ w w2 g) := Lib.hid (fun w9 h9 h8 => Ext.grown ((h9.to_drew).trans he1) hgr hown1 (by omega))))
  all_goals
    have hbk3 : Blk (w2.setCell ⟨g, 2, none⟩ (.slice S2 (q + p) r2)) g 80 #[.slice B m d, .int .i64 (x : Int), .slice S2 (q + p) r2] := hbk2.set_ 2 (.slice S2 (q + p) r2)
    have hown3 := Own.setCell hO2 (p := ⟨g, 2, none⟩) (show g < g + 1 by omega) (.slice S2 (q + p) r2)
    have hK3 : Hid (KeepsJ w (w2.setCell ⟨g, 2, none⟩ (.slice S2 (q + p) r2)) g) := Lib.hid (hK2.out.trans KeepsJ.set)
    have hO3 : Hid (OwnI (w2.setCell ⟨g, 2, none⟩ (.slice S2 (q + p) r2)) (g + 1) S2 (q + p) r2 (sg ++ wayL b x k)) := Lib.hid (by simpa [OwnI] using hown3)
    have hB3 := Lib.hid hbk3
    clear hbk1 d0 d1 d2 hown1 hx1 hg1 hO2 hgr hor hx2 hbk2 e0 e1 e2 f2 hK2 hown3 hI he1 c0 c1 c2 HBK HOW HX HW hbk3
    revert hK3 hO3 hB3
    generalize w2.setCell ⟨g, 2, none⟩ (.slice S2 (q + p) r2) = w3
    intro hK3 hO3 hB3
    have f1 := hB3.out.frozen 1
    obtain ⟨e0, e1, e2⟩ := cells3J hB3.out
    have hB4 : Hid (Blk (w3.setCell ⟨g, 1, none⟩ (.int .i64 (k : Int))) g 80 #[.slice B m d, .int .i64 (k : Int), .slice S2 (q + p) r2]) := Lib.hid (hB3.out.set_ 1 _)
    have hO4 := Lib.hid (Own.setCell hO3.out (p := ⟨g, 1, none⟩) (show g < g + 1 by omega) (.int .i64 (k : Int)))
    go_wp2_with fail
    go_ret
    exact ⟨rfl, by rw [hlen.out]; exact ⟨S2, _, r2, hB4.out, hO4.out⟩, hK3.out.trans KeepsJ.set⟩

set_option maxRecDepth 20000 in
set_option maxHeartbeats 8000000 in
theorem overJ_ok {w0 w : World} {g m d u v : Nat} {B : Option Addr} {b : List Int} {j : Nat × List Int} (h : JAt w g B m d j) (hb : Ints w0 B m d b) (hB : B = none → d = 0) (hx : Ext w0 w) (hg : w0.heap.size ≤ g) (hm : m ≤ 120) (hj : j.1 ≤ m) (huv : u ≤ v) (hv : v ≤ m) (hz : j.2.length ≤ 900000) :
    Calls Try.prog 45 #[.pointer (some ⟨g, 0, none⟩), .int .i64 u, .int .i64 v] w fun e w' => e = .returned (.pointer (some ⟨g, 0, none⟩)) ∧ JAt w' g B m d (overJ b j u v) ∧ KeepsJ w w' g := by
  obtain ⟨i0, hi, hz0, hz1, hz2⟩ := info_parts info_int
  have HT := Lib.hid (to_ok (k := u) h hb hB hx hg hm hj (by omega) (by omega))
  have hmd := hb.ncap
  have hdm := hb.nmax
  unfold maxLen at hdm
  have hlen : Hid (overJ b j u v = (v, (toJ b j u).2 ++ (b.drop u).take (v - u))) := Lib.hid rfl
  have hlz : (toJ b j u).2.length ≤ 900121 := by
    have h1 := way_short (b := b) (x := j.1) (y := u) (by omega) (by omega)
    show (j.2 ++ wayL b j.1 u).length ≤ _
    rw [List.length_append]; omega
  have hcut := run_cutA B m d u v huv (by omega)
  have HR := Lib.hid (hb.cutA huv hv)
  have HX := Lib.hid hx
  clear h hb hB hx
  have hall := And.intro hcut HR
  clear hcut HR
  revert hall hlen
  have hpm : v - u ≤ 120 := by omega
  revert hpm
  generalize (b.drop u).take (v - u) = z
  generalize cutA B d u = D
  generalize v - u = p
  generalize d - u = r'
  intro hpm hlen
  rintro ⟨hcut, HR⟩
  revert HT hlz hlen
  generalize toJ b j u = j1
  intro HT hlz hlen
  obtain ⟨x, sg⟩ := j1
  have hlz : sg.length ≤ 900121 := hlz
  go_enter Try.func45, Try.ntmps45
  go_wp2_with fail
  refine HT.out.mono ?_
  rintro e w1 ⟨rfl, hJ, hK⟩
  clear HT
  obtain ⟨S, q, r, hbk, hown⟩ := hJ
  have hbk : Blk w1 g 80 #[.slice B m d, .int .i64 (x : Int), .slice S q r] := hbk
  have hown : OwnI w1 (g + 1) S q r sg := hown
  have hq : q ≤ 1000000 := by have : sg.length = q := (OwnI.ints hown).len; omega
  have hgw := hbk.lt
  have hx1 := hK w0 HX.out hg
  have HBK := Lib.hid hbk
  have hownd := OwnI.ext hown (Ext.drew w1)
  have hrd := (HR.out.ext hx1).ext (Ext.drew w1)
  have hrl := hrd.one
  have HONE := Lib.hid hrl
  have hxd := hx1.to_drew
  have hgd : g + 1 ≤ w1.drew.heap.size := hgw
  obtain ⟨c0, c1, c2⟩ := cells3J hbk
  have HOB : Hid (∀ k, (Value.slice S q r).ownBlock = some k → g + 1 ≤ k) := Lib.hid fun k hk => (Own.blk hown k hk).1
  have HK := Lib.hid hK
  have hg0 : w0.heap.size ≤ g + 1 := by omega
  have hb1 : q + p ≤ maxLen := by unfold maxLen; omega
  have hb2 : (q + p) * 8 ≤ 140737488355328 := by omega
  clear hbk hown hx1 hK HX HR hrl
  go_wp2_with fail
  go_region_law (first
    | (refine step_app rfl (.tmp 14) (.tmp 21) 22 rfl w0 (g + 1) 3 i0 _ 1 8 Try.underlying22 hi hz0 hz1 hz2 rfl (by decide) S q r _ rfl hownd D p r' _ rfl hrd HONE.out hb1 hb2 hxd hg0 hgd ?_
       intro S2 r2 w2 hO2 hgr hor hx2
       have hbk2 := (HBK.out.ext (Ext.drew w1)).grown hgr (fun e => by have := HOB.out g e.symm; omega)
       obtain ⟨e0, e1, e2⟩ := cells3J hbk2
       have f2 := hbk2.frozen 2
       have hK2 : Hid (KeepsJ w w2 g) := Lib.hid (HK.out.trans (fun w9 h9 h8 => Ext.grown (h9.to_drew) hgr hownd (by omega)))))
  all_goals
    have hbk3 : Blk (w2.setCell ⟨g, 2, none⟩ (.slice S2 (q + p) r2)) g 80 #[.slice B m d, .int .i64 (x : Int), .slice S2 (q + p) r2] := hbk2.set_ 2 (.slice S2 (q + p) r2)
    have hown3 := Own.setCell hO2 (p := ⟨g, 2, none⟩) (show g < g + 1 by omega) (.slice S2 (q + p) r2)
    have hK3 : Hid (KeepsJ w (w2.setCell ⟨g, 2, none⟩ (.slice S2 (q + p) r2)) g) := Lib.hid (hK2.out.trans KeepsJ.set)
    have hO3 : Hid (OwnI (w2.setCell ⟨g, 2, none⟩ (.slice S2 (q + p) r2)) (g + 1) S2 (q + p) r2 (sg ++ z)) := Lib.hid (by simpa [OwnI] using hown3)
    have hB3 := Lib.hid hbk3
    clear hO2 hgr hor hx2 hbk2 e0 e1 e2 f2 hK2 hown3 c0 c1 c2 HBK hownd hrd HONE hxd hgd hbk3
    revert hK3 hO3 hB3
    generalize w2.setCell ⟨g, 2, none⟩ (.slice S2 (q + p) r2) = w3
    intro hK3 hO3 hB3
    have f1 := hB3.out.frozen 1
    obtain ⟨e0, e1, e2⟩ := cells3J hB3.out
    have hB4 : Hid (Blk (w3.setCell ⟨g, 1, none⟩ (.int .i64 (v : Int))) g 80 #[.slice B m d, .int .i64 (v : Int), .slice S2 (q + p) r2]) := Lib.hid (hB3.out.set_ 1 _)
    have hO4 := Lib.hid (Own.setCell hO3.out (p := ⟨g, 1, none⟩) (show g < g + 1 by omega) (.int .i64 (v : Int)))
    go_wp2_with fail
    go_ret
    exact ⟨rfl, by rw [hlen.out]; exact ⟨S2, _, r2, hB4.out, hO4.out⟩, hK3.out.trans KeepsJ.set⟩

set_option maxRecDepth 20000 in
set_option maxHeartbeats 8000000 in
theorem eraseJ_ok {w0 w : World} {g m d u : Nat} {B : Option Addr} {b : List Int} {j : Nat × List Int} (h : JAt w g B m d j) (hb : Ints w0 B m d b) (hB : B = none → d = 0) (hx : Ext w0 w) (hg : w0.heap.size ≤ g) (hm : m ≤ 120) (hj : j.1 ≤ m) (hu : u ≤ m) (hz : j.2.length ≤ 900000) :
    Calls Try.prog 46 #[.pointer (some ⟨g, 0, none⟩), .int .i64 u] w fun e w' => e = .returned (.pointer (some ⟨g, 0, none⟩)) ∧ JAt w' g B m d (eraseJ b j u) ∧ KeepsJ w w' g := by
  obtain ⟨i0, hi, hz0, hz1, hz2⟩ := info_parts info_int
  have HT := Lib.hid (to_ok (k := u) h hb hB hx hg hm hj (by omega) (by omega))
  have hlen : Hid (eraseJ b j u = ((toJ b j u).1, (toJ b j u).2 ++ [11])) := Lib.hid rfl
  have hlz : (toJ b j u).2.length ≤ 900121 := by
    have h1 := way_short (b := b) (x := j.1) (y := u) (by omega) (by omega)
    show (j.2 ++ wayL b j.1 u).length ≤ _
    rw [List.length_append]; omega
  have HX := Lib.hid hx
  clear h hb hB hx
  revert HT hlz hlen
  generalize toJ b j u = j1
  intro HT hlen hlz
  obtain ⟨x, sg⟩ := j1
  have hlz : sg.length ≤ 900121 := hlz
  go_enter Try.func46, Try.ntmps46
  go_wp2_with fail
  refine HT.out.mono ?_
  rintro e w1 ⟨rfl, hJ, hK⟩
  clear HT
  obtain ⟨S, q, r, hbk, hown⟩ := hJ
  have hbk : Blk w1 g 80 #[.slice B m d, .int .i64 (x : Int), .slice S q r] := hbk
  have hown : OwnI w1 (g + 1) S q r sg := hown
  have hq : q ≤ 1000000 := by have : sg.length = q := (OwnI.ints hown).len; omega
  have hgw := hbk.lt
  have hx1 := hK w0 HX.out hg
  have HBK := Lib.hid hbk
  obtain ⟨c0, c1, c2⟩ := cells3J hbk
  have c2' : (w1.alloc (.cells #[.int .i64 11] 3)).cell? ⟨g, 2, none⟩ = some (.slice S q r) := (Ext.alloc w1 _).cell c2
  have HOB : Hid (∀ k, (Value.slice S q r).ownBlock = some k → g + 1 ≤ k) := Lib.hid fun k hk => (Own.blk hown k hk).1
  have HK := Lib.hid hK
  have hg0 : w0.heap.size ≤ g + 1 := by omega
  have hb1 : q + 1 ≤ maxLen := by unfold maxLen; omega
  have hb2 : (q + 1) * 8 ≤ 140737488355328 := by omega
  clear hbk hK HX
  go_wp2_with (at_builtin; refine wpList_push rfl (.tmp 12) (.tmp 13) 22 rfl w0 (g + 1) 3 i0 _ 1 8 Try.underlying22 hi hz0 hz1 hz2 rfl (by decide) S q r _ rfl hown #[.int .i64 11] rfl (by simp [Value.oneCell']) rfl hb1 hb2 hx1 hg0 hgw ?_)
  intro S2 r2 w2 hO2 hgr hor hx2
  have hbk2 := HBK.out.grown hgr (fun e => by have := HOB.out g e.symm; omega)
  obtain ⟨e0, e1, e2⟩ := cells3J hbk2
  have f2 := hbk2.frozen 2
  have hK3 : Hid (KeepsJ w (w2.setCell ⟨g, 2, none⟩ (.slice S2 (q + 1) r2)) g) := Lib.hid (HK.out.trans ((show KeepsJ w1 w2 g from fun w9 h9 h8 => Ext.grown h9 hgr hown (by omega)).trans KeepsJ.set))
  have hB3 : Hid (Blk (w2.setCell ⟨g, 2, none⟩ (.slice S2 (q + 1) r2)) g 80 #[.slice B m d, .int .i64 (x : Int), .slice S2 (q + 1) r2]) := Lib.hid (hbk2.set_ 2 (.slice S2 (q + 1) r2))
  have hown3 := Own.setCell hO2 (p := ⟨g, 2, none⟩) (show g < g + 1 by omega) (.slice S2 (q + 1) r2)
  have hO3 : Hid (OwnI (w2.setCell ⟨g, 2, none⟩ (.slice S2 (q + 1) r2)) (g + 1) S2 (q + 1) r2 (sg ++ [11])) := Lib.hid (by simpa [OwnI] using hown3)
  clear hO2 hgr hor hx2 hbk2 e0 e1 hown3 hown hx1
  go_wp2_with fail
  go_ret
  exact ⟨rfl, by rw [hlen.out]; exact ⟨S2, _, r2, hB3.out, hO3.out⟩, hK3.out⟩
end Go.Proofs.Ythphlghblmindaa
