/-
  The doer's plain: into the modes that insert; every verb.
-/
import Derived.Test.YtmhgndjmcignjaaZDoT

namespace Go.Proofs.Ytmhgndjmcignjaa
open Go.RowKit
set_option linter.unusedVariables false
set_option linter.unusedSimpArgs false

/-- motion.Go at '^'. -/
theorem first_go {w : World} {A : Option Addr} {n c a : Nat} {l : List Int} (hl : Ints w A n c l) (wl : ∀ x ∈ l, (Lit.int .i64 x).wf = true) (hn : n ≤ 200) (ha : a ≤ n - 1) :
    Calls Try.prog 37 #[.slice A n c, .int .i64 (a : Int), .agg #[.int .i64 94, .int .i64 0, .int .i64 0], .bool false] w fun e w' => e = .returned (.tuple #[.int .i64 (firstF l : Nat), .bool false, .int .i64 0]) ∧ Ext w w' := by
  refine (mgo_all (k := (a : Int)) (key := 94) (cnt := 0) (arg := 0) (op := false) hl wl).mono ?_
  rintro e w' ⟨h | ⟨h, _⟩, hx⟩
  · obtain ⟨_, o, ho, rfl⟩ := h
    refine ⟨?_, hx⟩
    have h1 : isFind 94 = false := by decide
    unfold goR at ho
    rw [h1] at ho
    unfold plainR plainF at ho
    simp at ho
    rw [ho]
    rfl
  · exact absurd ⟨by omega, by omega, by omega, by omega, by omega, by decide⟩ h

set_option maxRecDepth 20000 in
set_option maxHeartbeats 8000000 in
theorem plain_105 {v0 w : World} {g n c a : Nat} {cs rs : Array Value} {A : Option Addr} {l : List Int} {rl : Nat → List Int} {k1 k2 k3 k5 fk fa : Int} (h : CmdIn v0 w g cs A n c a rs rl k1 k2 k3 105 k5 fk fa l) :
    Calls Try.prog 30 #[.pointer (some ⟨g, 0, none⟩)] w (DoneIs g w (PlainOk n a rl k1 k2 105) (PlainPost g l n a rl k1 k2 105 k5 fk fa)) := by
  obtain ⟨h0, h1, hrs, h29, h30, h31, h32, h33⟩ := h.cells
  have hb := h.blk
  have X0 : Hid (∀ wx, Ext w wx → wx.cell? ⟨g, 0, none⟩ = some (.slice A n c)) := Lib.hid fun wx he => he.cell ((hb.cell 0).trans h0)
  have X1 : Hid (∀ wx, Ext w wx → wx.cell? ⟨g, 1, none⟩ = some (.int .i64 (a : Int))) := Lib.hid fun wx he => he.cell ((hb.cell 1).trans h1)
  have Y0 : Hid (∀ wx, Ext w wx → wx.cell? ⟨g, 29, none⟩ = some (.int .i64 k1)) := Lib.hid fun wx he => he.cell ((hb.cell 29).trans h29)
  have Y3 : Hid (∀ wx, Ext w wx → wx.cell? ⟨g, 32, none⟩ = some (.int .i64 105)) := Lib.hid fun wx he => he.cell ((hb.cell 32).trans h32)
  have HC0 := Lib.hid h0
  have HC1 := Lib.hid h1
  have HC33 := Lib.hid h33
  have HI := Lib.hid h
  have hgw := hb.lt
  have hn := h.len
  have ha := h.place
  have hk := h.cnt.1
  have hk2 := h.cnt.2
  obtain ⟨N, hN⟩ : ∃ N : Nat, cntN k1 = N := ⟨_, rfl⟩
  have hmx : max 1 k1 = (N : Int) := by unfold cntN at hN; omega
  have hN1 : 1 ≤ N := by unfold cntN at hN; omega
  have hN9 : N ≤ 999 := by unfold cntN at hN; omega
  have HN := Lib.hid hN
  clear h h0 h1 hrs h29 h30 h31 h32 h33 hb hN
  have hx1 := Lib.hid (Ext.alloc w (.cells #[.pointer (some ⟨g, 0, none⟩)] 55))
  have hb1 := Lib.hid (Blk.new w 55 #[.pointer (some ⟨g, 0, none⟩)])
  go_enter Try.func30, Try.ntmps30
  go_upto_region 1 with fail
  change Code.wp _ _ _ _ (w.alloc (.cells #[.pointer (some ⟨g, 0, none⟩)] 55))
  generalize w.alloc (.cells #[.pointer (some ⟨g, 0, none⟩)] 55) = w1 at *
  have z0 : w1.cell? ⟨w.heap.size, 0, none⟩ = some (.pointer (some ⟨g, 0, none⟩)) := hb1.out.cell 0
  have x0 := X0.out w1 hx1.out
  have x1 := X1.out w1 hx1.out
  have y0 := Y0.out w1 hx1.out
  have y3 := Y3.out w1 hx1.out
  go_quiet (fail)
  have hxq := Lib.hid (hx1.out.trans (Ext.drewN w1 nq))
  have hbq := Lib.hid (Blk.drewN hb1.out nq)
  clear x0 x1 y0 y3 z0 hx1 hb1
  generalize w1.drewN nq = w2 at *
  have z0 : w2.cell? ⟨w.heap.size, 0, none⟩ = some (.pointer (some ⟨g, 0, none⟩)) := hbq.out.cell 0
  have x1 := X1.out w2 hxq.out
  have y3 := Y3.out w2 hxq.out
  have HM2 := Lib.hid (HI.out.mid.ext hxq.out)
  have c65 := HM2.out.mode
  have f65 := HM2.out.blk.frozen 65
  have HM3 := Lib.hid (HM2.out.setMode 1)
  go_wp2_with fail
  go_ret
  exact HM3.out.done ⟨_, _, _, _, HM3.out.out, .inr (.inr (.inr (.inr ⟨rfl, rfl, .inl ⟨rfl, rfl, rfl⟩⟩)))⟩

set_option maxRecDepth 20000 in
set_option maxHeartbeats 8000000 in
theorem plain_82 {v0 w : World} {g n c a : Nat} {cs rs : Array Value} {A : Option Addr} {l : List Int} {rl : Nat → List Int} {k1 k2 k3 k5 fk fa : Int} (h : CmdIn v0 w g cs A n c a rs rl k1 k2 k3 82 k5 fk fa l) :
    Calls Try.prog 30 #[.pointer (some ⟨g, 0, none⟩)] w (DoneIs g w (PlainOk n a rl k1 k2 82) (PlainPost g l n a rl k1 k2 82 k5 fk fa)) := by
  obtain ⟨h0, h1, hrs, h29, h30, h31, h32, h33⟩ := h.cells
  have hb := h.blk
  have X0 : Hid (∀ wx, Ext w wx → wx.cell? ⟨g, 0, none⟩ = some (.slice A n c)) := Lib.hid fun wx he => he.cell ((hb.cell 0).trans h0)
  have X1 : Hid (∀ wx, Ext w wx → wx.cell? ⟨g, 1, none⟩ = some (.int .i64 (a : Int))) := Lib.hid fun wx he => he.cell ((hb.cell 1).trans h1)
  have Y0 : Hid (∀ wx, Ext w wx → wx.cell? ⟨g, 29, none⟩ = some (.int .i64 k1)) := Lib.hid fun wx he => he.cell ((hb.cell 29).trans h29)
  have Y3 : Hid (∀ wx, Ext w wx → wx.cell? ⟨g, 32, none⟩ = some (.int .i64 82)) := Lib.hid fun wx he => he.cell ((hb.cell 32).trans h32)
  have HC0 := Lib.hid h0
  have HC1 := Lib.hid h1
  have HC33 := Lib.hid h33
  have HI := Lib.hid h
  have hgw := hb.lt
  have hn := h.len
  have ha := h.place
  have hk := h.cnt.1
  have hk2 := h.cnt.2
  obtain ⟨N, hN⟩ : ∃ N : Nat, cntN k1 = N := ⟨_, rfl⟩
  have hmx : max 1 k1 = (N : Int) := by unfold cntN at hN; omega
  have hN1 : 1 ≤ N := by unfold cntN at hN; omega
  have hN9 : N ≤ 999 := by unfold cntN at hN; omega
  have HN := Lib.hid hN
  clear h h0 h1 hrs h29 h30 h31 h32 h33 hb hN
  have hx1 := Lib.hid (Ext.alloc w (.cells #[.pointer (some ⟨g, 0, none⟩)] 55))
  have hb1 := Lib.hid (Blk.new w 55 #[.pointer (some ⟨g, 0, none⟩)])
  go_enter Try.func30, Try.ntmps30
  go_upto_region 1 with fail
  change Code.wp _ _ _ _ (w.alloc (.cells #[.pointer (some ⟨g, 0, none⟩)] 55))
  generalize w.alloc (.cells #[.pointer (some ⟨g, 0, none⟩)] 55) = w1 at *
  have z0 : w1.cell? ⟨w.heap.size, 0, none⟩ = some (.pointer (some ⟨g, 0, none⟩)) := hb1.out.cell 0
  have x0 := X0.out w1 hx1.out
  have x1 := X1.out w1 hx1.out
  have y0 := Y0.out w1 hx1.out
  have y3 := Y3.out w1 hx1.out
  go_quiet (fail)
  have hxq := Lib.hid (hx1.out.trans (Ext.drewN w1 nq))
  have hbq := Lib.hid (Blk.drewN hb1.out nq)
  clear x0 x1 y0 y3 z0 hx1 hb1
  generalize w1.drewN nq = w2 at *
  have z0 : w2.cell? ⟨w.heap.size, 0, none⟩ = some (.pointer (some ⟨g, 0, none⟩)) := hbq.out.cell 0
  have x1 := X1.out w2 hxq.out
  have y3 := Y3.out w2 hxq.out
  have HM2 := Lib.hid (HI.out.mid.ext hxq.out)
  have c65 := HM2.out.mode
  have f65 := HM2.out.blk.frozen 65
  have HM3 := Lib.hid (HM2.out.setMode 2)
  go_wp2_with fail
  go_ret
  exact HM3.out.done ⟨_, _, _, _, HM3.out.out, .inr (.inr (.inr (.inr ⟨rfl, rfl, .inr (.inr (.inr (.inr ⟨rfl, rfl, rfl⟩)))⟩)))⟩

set_option maxRecDepth 20000 in
set_option maxHeartbeats 8000000 in
theorem plain_65 {v0 w : World} {g n c a : Nat} {cs rs : Array Value} {A : Option Addr} {l : List Int} {rl : Nat → List Int} {k1 k2 k3 k5 fk fa : Int} (h : CmdIn v0 w g cs A n c a rs rl k1 k2 k3 65 k5 fk fa l) :
    Calls Try.prog 30 #[.pointer (some ⟨g, 0, none⟩)] w (DoneIs g w (PlainOk n a rl k1 k2 65) (PlainPost g l n a rl k1 k2 65 k5 fk fa)) := by
  obtain ⟨h0, h1, hrs, h29, h30, h31, h32, h33⟩ := h.cells
  have hb := h.blk
  have X0 : Hid (∀ wx, Ext w wx → wx.cell? ⟨g, 0, none⟩ = some (.slice A n c)) := Lib.hid fun wx he => he.cell ((hb.cell 0).trans h0)
  have X1 : Hid (∀ wx, Ext w wx → wx.cell? ⟨g, 1, none⟩ = some (.int .i64 (a : Int))) := Lib.hid fun wx he => he.cell ((hb.cell 1).trans h1)
  have Y0 : Hid (∀ wx, Ext w wx → wx.cell? ⟨g, 29, none⟩ = some (.int .i64 k1)) := Lib.hid fun wx he => he.cell ((hb.cell 29).trans h29)
  have Y3 : Hid (∀ wx, Ext w wx → wx.cell? ⟨g, 32, none⟩ = some (.int .i64 65)) := Lib.hid fun wx he => he.cell ((hb.cell 32).trans h32)
  have HC0 := Lib.hid h0
  have HC1 := Lib.hid h1
  have HC33 := Lib.hid h33
  have HI := Lib.hid h
  have hgw := hb.lt
  have hn := h.len
  have ha := h.place
  have hk := h.cnt.1
  have hk2 := h.cnt.2
  obtain ⟨N, hN⟩ : ∃ N : Nat, cntN k1 = N := ⟨_, rfl⟩
  have hmx : max 1 k1 = (N : Int) := by unfold cntN at hN; omega
  have hN1 : 1 ≤ N := by unfold cntN at hN; omega
  have hN9 : N ≤ 999 := by unfold cntN at hN; omega
  have HN := Lib.hid hN
  clear h h0 h1 hrs h29 h30 h31 h32 h33 hb hN
  have hx1 := Lib.hid (Ext.alloc w (.cells #[.pointer (some ⟨g, 0, none⟩)] 55))
  have hb1 := Lib.hid (Blk.new w 55 #[.pointer (some ⟨g, 0, none⟩)])
  go_enter Try.func30, Try.ntmps30
  go_upto_region 1 with fail
  change Code.wp _ _ _ _ (w.alloc (.cells #[.pointer (some ⟨g, 0, none⟩)] 55))
  generalize w.alloc (.cells #[.pointer (some ⟨g, 0, none⟩)] 55) = w1 at *
  have z0 : w1.cell? ⟨w.heap.size, 0, none⟩ = some (.pointer (some ⟨g, 0, none⟩)) := hb1.out.cell 0
  have x0 := X0.out w1 hx1.out
  have x1 := X1.out w1 hx1.out
  have y0 := Y0.out w1 hx1.out
  have y3 := Y3.out w1 hx1.out
  go_quiet (fail)
  have hxq := Lib.hid (hx1.out.trans (Ext.drewN w1 nq))
  have hbq := Lib.hid (Blk.drewN hb1.out nq)
  clear x0 x1 y0 y3 z0 hx1 hb1
  generalize w1.drewN nq = w2 at *
  have z0 : w2.cell? ⟨w.heap.size, 0, none⟩ = some (.pointer (some ⟨g, 0, none⟩)) := hbq.out.cell 0
  have x1 := X1.out w2 hxq.out
  have y3 := Y3.out w2 hxq.out
  have HM2 := Lib.hid (HI.out.mid.ext hxq.out)
  have c65 := HM2.out.mode
  have f65 := HM2.out.blk.frozen 65
  have HM3 := Lib.hid (HM2.out.setMode 1)
  have zz : (w2.setCell ⟨g, 65, none⟩ (.int .i64 1)).cell? ⟨w.heap.size, 0, none⟩ = some (.pointer (some ⟨g, 0, none⟩)) := (set_other hbq.out (by omega) 65 _).cell 0
  have c35 := HM3.out.oat
  have f35 := HM3.out.blk.frozen 35
  have HM6 := Lib.hid (HM3.out.setAt (n : Int))
  go_wp2_with fail
  go_ret
  exact HM6.out.done ⟨_, _, _, _, HM6.out.out, .inr (.inr (.inr (.inr ⟨rfl, rfl, .inr (.inr (.inr (.inl ⟨rfl, rfl, rfl⟩)))⟩)))⟩

set_option maxRecDepth 20000 in
set_option maxHeartbeats 8000000 in
theorem plain_97 {v0 w : World} {g n c a : Nat} {cs rs : Array Value} {A : Option Addr} {l : List Int} {rl : Nat → List Int} {k1 k2 k3 k5 fk fa : Int} (h : CmdIn v0 w g cs A n c a rs rl k1 k2 k3 97 k5 fk fa l) :
    Calls Try.prog 30 #[.pointer (some ⟨g, 0, none⟩)] w (DoneIs g w (PlainOk n a rl k1 k2 97) (PlainPost g l n a rl k1 k2 97 k5 fk fa)) := by
  obtain ⟨h0, h1, hrs, h29, h30, h31, h32, h33⟩ := h.cells
  have hb := h.blk
  have X0 : Hid (∀ wx, Ext w wx → wx.cell? ⟨g, 0, none⟩ = some (.slice A n c)) := Lib.hid fun wx he => he.cell ((hb.cell 0).trans h0)
  have X1 : Hid (∀ wx, Ext w wx → wx.cell? ⟨g, 1, none⟩ = some (.int .i64 (a : Int))) := Lib.hid fun wx he => he.cell ((hb.cell 1).trans h1)
  have Y0 : Hid (∀ wx, Ext w wx → wx.cell? ⟨g, 29, none⟩ = some (.int .i64 k1)) := Lib.hid fun wx he => he.cell ((hb.cell 29).trans h29)
  have Y3 : Hid (∀ wx, Ext w wx → wx.cell? ⟨g, 32, none⟩ = some (.int .i64 97)) := Lib.hid fun wx he => he.cell ((hb.cell 32).trans h32)
  have HC0 := Lib.hid h0
  have HC1 := Lib.hid h1
  have HC33 := Lib.hid h33
  have HI := Lib.hid h
  have hgw := hb.lt
  have hn := h.len
  have ha := h.place
  have hk := h.cnt.1
  have hk2 := h.cnt.2
  obtain ⟨N, hN⟩ : ∃ N : Nat, cntN k1 = N := ⟨_, rfl⟩
  have hmx : max 1 k1 = (N : Int) := by unfold cntN at hN; omega
  have hN1 : 1 ≤ N := by unfold cntN at hN; omega
  have hN9 : N ≤ 999 := by unfold cntN at hN; omega
  have HN := Lib.hid hN
  clear h h0 h1 hrs h29 h30 h31 h32 h33 hb hN
  have hx1 := Lib.hid (Ext.alloc w (.cells #[.pointer (some ⟨g, 0, none⟩)] 55))
  have hb1 := Lib.hid (Blk.new w 55 #[.pointer (some ⟨g, 0, none⟩)])
  go_enter Try.func30, Try.ntmps30
  go_upto_region 1 with fail
  change Code.wp _ _ _ _ (w.alloc (.cells #[.pointer (some ⟨g, 0, none⟩)] 55))
  generalize w.alloc (.cells #[.pointer (some ⟨g, 0, none⟩)] 55) = w1 at *
  have z0 : w1.cell? ⟨w.heap.size, 0, none⟩ = some (.pointer (some ⟨g, 0, none⟩)) := hb1.out.cell 0
  have x0 := X0.out w1 hx1.out
  have x1 := X1.out w1 hx1.out
  have y0 := Y0.out w1 hx1.out
  have y3 := Y3.out w1 hx1.out
  go_quiet (fail)
  have hxq := Lib.hid (hx1.out.trans (Ext.drewN w1 nq))
  have hbq := Lib.hid (Blk.drewN hb1.out nq)
  clear x0 x1 y0 y3 z0 hx1 hb1
  generalize w1.drewN nq = w2 at *
  have z0 : w2.cell? ⟨w.heap.size, 0, none⟩ = some (.pointer (some ⟨g, 0, none⟩)) := hbq.out.cell 0
  have x1 := X1.out w2 hxq.out
  have y3 := Y3.out w2 hxq.out
  have HM2 := Lib.hid (HI.out.mid.ext hxq.out)
  have c65 := HM2.out.mode
  have f65 := HM2.out.blk.frozen 65
  have HM3 := Lib.hid (HM2.out.setMode 1)
  have zz : (w2.setCell ⟨g, 65, none⟩ (.int .i64 1)).cell? ⟨w.heap.size, 0, none⟩ = some (.pointer (some ⟨g, 0, none⟩)) := (set_other hbq.out (by omega) 65 _).cell 0
  have c35 := HM3.out.oat
  have f35 := HM3.out.blk.frozen 35
  have C1 : (w2.setCell ⟨g, 65, none⟩ (.int .i64 1)).cell? ⟨g, 1, none⟩ = some (.int .i64 (a : Int)) := HM3.out.cell (by omega) HC1.out
  obtain ⟨P, hP⟩ : ∃ P : Nat, min (a + 1) n = P := ⟨_, rfl⟩
  have hmn : min ((a : Int) + 1) (n : Int) = (P : Int) := by omega
  have hwr : IntKind.i64.wrap ((a : Int) + 1) = (a : Int) + 1 := IntWalk.i64_in _ (by omega)
  have HPd := Lib.hid hP
  have HM6 := Lib.hid ((HM3.out.setAt (P : Int)).ext (Ext.drew _))
  clear hP
  go_upto_region 26 with fail
  clear c65 f65
  go_region_law (fail)
  all_goals
    clear hwr hmn c35 f35 C1 zz
    go_wp2_with fail
    go_ret
    exact HM6.out.done ⟨_, _, _, _, HM6.out.out, .inr (.inr (.inr (.inr ⟨rfl, rfl, .inr (.inr (.inl ⟨rfl, by rw [HPd.out], rfl⟩))⟩)))⟩

set_option maxRecDepth 20000 in
set_option maxHeartbeats 8000000 in
theorem plain_73 {v0 w : World} {g n c a : Nat} {cs rs : Array Value} {A : Option Addr} {l : List Int} {rl : Nat → List Int} {k1 k2 k3 k5 fk fa : Int} (h : CmdIn v0 w g cs A n c a rs rl k1 k2 k3 73 k5 fk fa l) :
    Calls Try.prog 30 #[.pointer (some ⟨g, 0, none⟩)] w (DoneIs g w (PlainOk n a rl k1 k2 73) (PlainPost g l n a rl k1 k2 73 k5 fk fa)) := by
  obtain ⟨h0, h1, hrs, h29, h30, h31, h32, h33⟩ := h.cells
  have hb := h.blk
  have X0 : Hid (∀ wx, Ext w wx → wx.cell? ⟨g, 0, none⟩ = some (.slice A n c)) := Lib.hid fun wx he => he.cell ((hb.cell 0).trans h0)
  have X1 : Hid (∀ wx, Ext w wx → wx.cell? ⟨g, 1, none⟩ = some (.int .i64 (a : Int))) := Lib.hid fun wx he => he.cell ((hb.cell 1).trans h1)
  have Y0 : Hid (∀ wx, Ext w wx → wx.cell? ⟨g, 29, none⟩ = some (.int .i64 k1)) := Lib.hid fun wx he => he.cell ((hb.cell 29).trans h29)
  have Y3 : Hid (∀ wx, Ext w wx → wx.cell? ⟨g, 32, none⟩ = some (.int .i64 73)) := Lib.hid fun wx he => he.cell ((hb.cell 32).trans h32)
  have HC0 := Lib.hid h0
  have HC1 := Lib.hid h1
  have HC33 := Lib.hid h33
  have HI := Lib.hid h
  have hgw := hb.lt
  have hn := h.len
  have ha := h.place
  have hk := h.cnt.1
  have hk2 := h.cnt.2
  obtain ⟨N, hN⟩ : ∃ N : Nat, cntN k1 = N := ⟨_, rfl⟩
  have hmx : max 1 k1 = (N : Int) := by unfold cntN at hN; omega
  have hN1 : 1 ≤ N := by unfold cntN at hN; omega
  have hN9 : N ≤ 999 := by unfold cntN at hN; omega
  have HN := Lib.hid hN
  clear h h0 h1 hrs h29 h30 h31 h32 h33 hb hN
  have hx1 := Lib.hid (Ext.alloc w (.cells #[.pointer (some ⟨g, 0, none⟩)] 55))
  have hb1 := Lib.hid (Blk.new w 55 #[.pointer (some ⟨g, 0, none⟩)])
  go_enter Try.func30, Try.ntmps30
  go_upto_region 1 with fail
  change Code.wp _ _ _ _ (w.alloc (.cells #[.pointer (some ⟨g, 0, none⟩)] 55))
  generalize w.alloc (.cells #[.pointer (some ⟨g, 0, none⟩)] 55) = w1 at *
  have z0 : w1.cell? ⟨w.heap.size, 0, none⟩ = some (.pointer (some ⟨g, 0, none⟩)) := hb1.out.cell 0
  have x0 := X0.out w1 hx1.out
  have x1 := X1.out w1 hx1.out
  have y0 := Y0.out w1 hx1.out
  have y3 := Y3.out w1 hx1.out
  go_quiet (fail)
  have hxq := Lib.hid (hx1.out.trans (Ext.drewN w1 nq))
  have hbq := Lib.hid (Blk.drewN hb1.out nq)
  clear x0 x1 y0 y3 z0 hx1 hb1
  generalize w1.drewN nq = w2 at *
  have z0 : w2.cell? ⟨w.heap.size, 0, none⟩ = some (.pointer (some ⟨g, 0, none⟩)) := hbq.out.cell 0
  have x1 := X1.out w2 hxq.out
  have y3 := Y3.out w2 hxq.out
  have HM2 := Lib.hid (HI.out.mid.ext hxq.out)
  have c65 := HM2.out.mode
  have f65 := HM2.out.blk.frozen 65
  have HM3 := Lib.hid (HM2.out.setMode 1)
  have zz : (w2.setCell ⟨g, 65, none⟩ (.int .i64 1)).cell? ⟨w.heap.size, 0, none⟩ = some (.pointer (some ⟨g, 0, none⟩)) := (set_other hbq.out (by omega) 65 _).cell 0
  have c35 := HM3.out.oat
  have f35 := HM3.out.blk.frozen 35
  have C1 : (w2.setCell ⟨g, 65, none⟩ (.int .i64 1)).cell? ⟨g, 1, none⟩ = some (.int .i64 (a : Int)) := HM3.out.cell (by omega) HC1.out
  have C0 : (w2.setCell ⟨g, 65, none⟩ (.int .i64 1)).cell? ⟨g, 0, none⟩ = some (.slice A n c) := HM3.out.cell (by omega) HC0.out
  go_upto_region 23 with fail
  clear c65 f65
  have HBx := Lib.hid (set_other hbq.out (show g ≠ w.heap.size by omega) 65 (.int .i64 1))
  generalize w2.setCell ⟨g, 65, none⟩ (.int .i64 1) = w3 at *
  have HGd := Lib.hid (fun wx (he : Ext w3 wx) => first_go ((HI.out.line.ext (HI.out.ext.turned HM3.out.grown HI.out.base)).ext he) HI.out.nums hn ha)
  refine wp_region_held_drew (S := fun w' => w'.cell? ⟨w.heap.size, 0, none⟩ = some (.pointer (some ⟨g, 0, none⟩)) ∧ w'.cell? ⟨g, 0, none⟩ = some (.slice A n c) ∧ w'.cell? ⟨g, 1, none⟩ = some (.int .i64 (a : Int))) (by kernel_rfl) ⟨zz, C0, C1⟩ (fun hHeld => ?_)
  refine wpAnyH_take (i := 0) (v := (.pointer (some ⟨g, 0, none⟩))) rfl (by kernel_rfl) (by kernel_rfl) (by kernel_rfl) (fun _ _ _ h => h) (Or.inl ⟨by rfl, by (intro w hSw; obtain ⟨s0, s1, s2⟩ := hSw; go_simp)⟩) hHeld ?_
  try simp only [List.getElem_toArray, List.getElem_cons_zero, List.getElem_cons_succ, Act.put, List.setIfInBounds_toArray, List.set_cons_zero, List.set_cons_succ]
  refine wpAnyH_take (i := 1) (v := (.pointer (some ⟨g, 0, none⟩))) rfl (by kernel_rfl) (by kernel_rfl) (by kernel_rfl) (fun _ _ _ h => h) (Or.inl ⟨by rfl, by (intro w hSw; obtain ⟨s0, s1, s2⟩ := hSw; go_simp)⟩) hHeld ?_
  try simp only [List.getElem_toArray, List.getElem_cons_zero, List.getElem_cons_succ, Act.put, List.setIfInBounds_toArray, List.set_cons_zero, List.set_cons_succ]
  refine wpAnyH_take (i := 2) (v := (.pointer (some ⟨g, 0, none⟩))) rfl (by kernel_rfl) (by kernel_rfl) (by kernel_rfl) (fun _ _ _ h => h) (Or.inl ⟨by rfl, by (intro w hSw; obtain ⟨s0, s1, s2⟩ := hSw; go_simp)⟩) hHeld ?_
  try simp only [List.getElem_toArray, List.getElem_cons_zero, List.getElem_cons_succ, Act.put, List.setIfInBounds_toArray, List.set_cons_zero, List.set_cons_succ]
  refine wpAnyH_take (i := 3) (v := (.pointer (some ⟨g, 0, none⟩))) rfl (by kernel_rfl) (by kernel_rfl) (by kernel_rfl) (fun _ _ _ h => h) (Or.inl ⟨by rfl, by (intro w hSw; obtain ⟨s0, s1, s2⟩ := hSw; go_simp)⟩) hHeld ?_
  try simp only [List.getElem_toArray, List.getElem_cons_zero, List.getElem_cons_succ, Act.put, List.setIfInBounds_toArray, List.set_cons_zero, List.set_cons_succ]
  refine wpAnyH_take (i := 4) (v := (.pointer (some ⟨g, 0, none⟩))) rfl (by kernel_rfl) (by kernel_rfl) (by kernel_rfl) (fun _ _ _ h => h) (Or.inl ⟨by rfl, by (intro w hSw; obtain ⟨s0, s1, s2⟩ := hSw; go_simp)⟩) hHeld ?_
  try simp only [List.getElem_toArray, List.getElem_cons_zero, List.getElem_cons_succ, Act.put, List.setIfInBounds_toArray, List.set_cons_zero, List.set_cons_succ]
  refine wpAnyH_take (i := 5) (v := (.slice A n c)) rfl (by kernel_rfl) (by kernel_rfl) (by kernel_rfl) (fun _ _ _ h => h) (Or.inl ⟨by rfl, by (intro w hSw; obtain ⟨s0, s1, s2⟩ := hSw; go_simp)⟩) hHeld ?_
  try simp only [List.getElem_toArray, List.getElem_cons_zero, List.getElem_cons_succ, Act.put, List.setIfInBounds_toArray, List.set_cons_zero, List.set_cons_succ]
  refine wpAnyH_take (i := 6) (v := (.pointer (some ⟨g, 0, none⟩))) rfl (by kernel_rfl) (by kernel_rfl) (by kernel_rfl) (fun _ _ _ h => h) (Or.inl ⟨by rfl, by (intro w hSw; obtain ⟨s0, s1, s2⟩ := hSw; go_simp)⟩) hHeld ?_
  try simp only [List.getElem_toArray, List.getElem_cons_zero, List.getElem_cons_succ, Act.put, List.setIfInBounds_toArray, List.set_cons_zero, List.set_cons_succ]
  refine wpAnyH_take (i := 7) (v := (.pointer (some ⟨g, 0, none⟩))) rfl (by kernel_rfl) (by kernel_rfl) (by kernel_rfl) (fun _ _ _ h => h) (Or.inl ⟨by rfl, by (intro w hSw; obtain ⟨s0, s1, s2⟩ := hSw; go_simp)⟩) hHeld ?_
  try simp only [List.getElem_toArray, List.getElem_cons_zero, List.getElem_cons_succ, Act.put, List.setIfInBounds_toArray, List.set_cons_zero, List.set_cons_succ]
  refine wpAnyH_take (i := 8) (v := (.pointer (some ⟨g, 0, none⟩))) rfl (by kernel_rfl) (by kernel_rfl) (by kernel_rfl) (fun _ _ _ h => h) (Or.inl ⟨by rfl, by (intro w hSw; obtain ⟨s0, s1, s2⟩ := hSw; go_simp)⟩) hHeld ?_
  try simp only [List.getElem_toArray, List.getElem_cons_zero, List.getElem_cons_succ, Act.put, List.setIfInBounds_toArray, List.set_cons_zero, List.set_cons_succ]
  refine wpAnyH_take (i := 9) (v := (.pointer (some ⟨g, 1, none⟩))) rfl (by kernel_rfl) (by kernel_rfl) (by kernel_rfl) (fun _ _ _ h => h) (Or.inl ⟨by rfl, by (intro w hSw; obtain ⟨s0, s1, s2⟩ := hSw; go_simp)⟩) hHeld ?_
  try simp only [List.getElem_toArray, List.getElem_cons_zero, List.getElem_cons_succ, Act.put, List.setIfInBounds_toArray, List.set_cons_zero, List.set_cons_succ]
  refine wpAnyH_take (i := 10) (v := (.int .i64 (a : Int))) rfl (by kernel_rfl) (by kernel_rfl) (by kernel_rfl) (fun _ _ _ h => h) (Or.inl ⟨by rfl, by (intro w hSw; obtain ⟨s0, s1, s2⟩ := hSw; go_simp)⟩) hHeld ?_
  try simp only [List.getElem_toArray, List.getElem_cons_zero, List.getElem_cons_succ, Act.put, List.setIfInBounds_toArray, List.set_cons_zero, List.set_cons_succ]
  refine wpAnyH_take (i := 11) (v := (.agg #[.int .i64 94, .int .i64 0, .int .i64 0])) rfl (by kernel_rfl) (by kernel_rfl) (by kernel_rfl) (fun _ _ _ h => h) (Or.inl ⟨by rfl, by (intro w hSw; obtain ⟨s0, s1, s2⟩ := hSw; go_simp)⟩) hHeld ?_
  try simp only [List.getElem_toArray, List.getElem_cons_zero, List.getElem_cons_succ, Act.put, List.setIfInBounds_toArray, List.set_cons_zero, List.set_cons_succ]
  refine wpAnyH_ready (rs := [12]) (by kernel_rfl) (by simp) ?_
  refine AllReadyH.cons rfl (fun K hK => ?_) AllReadyH.nil
  refine step_callf rfl 37 #[.slice A n c, .int .i64 (a : Int), .agg #[.int .i64 94, .int .i64 0, .int .i64 0], .bool false] rfl (by kernel_rfl) (fun v w' => v = .tuple #[.int .i64 (firstF l : Nat), .bool false, .int .i64 0] ∧ Hid (Ext w3.drew w')) ((HGd.out _ (Ext.drew w3)).mono fun e w' ⟨h1, h2⟩ => ⟨_, h1, rfl, Lib.hid h2⟩) ?_
  rintro v w4 ⟨rfl, hx4⟩
  refine hK.out _ _ ⟨hx4.out.cell zz, hx4.out.cell C0, hx4.out.cell C1⟩ (fun hHeld2 => ?_)
  clear hK K hHeld
  try simp only [List.getElem_toArray, List.getElem_cons_zero, List.getElem_cons_succ, Act.put, List.setIfInBounds_toArray, List.set_cons_zero, List.set_cons_succ]
  refine wpAnyH_take (i := 13) (v := (.tuple #[.int .i64 (firstF l : Nat), .bool false, .int .i64 0])) rfl (by kernel_rfl) (by kernel_rfl) (by kernel_rfl) (fun _ _ _ h => h) (Or.inl ⟨by rfl, by (intro w hSw; obtain ⟨s0, s1, s2⟩ := hSw; go_simp)⟩) hHeld2 ?_
  try simp only [List.getElem_toArray, List.getElem_cons_zero, List.getElem_cons_succ, Act.put, List.setIfInBounds_toArray, List.set_cons_zero, List.set_cons_succ]
  refine wpAnyH_take (i := 14) (v := (.int .i64 (firstF l : Nat))) rfl (by kernel_rfl) (by kernel_rfl) (by kernel_rfl) (fun _ _ _ h => h) (Or.inl ⟨by rfl, by (intro w hSw; obtain ⟨s0, s1, s2⟩ := hSw; go_simp)⟩) hHeld2 ?_
  try simp only [List.getElem_toArray, List.getElem_cons_zero, List.getElem_cons_succ, Act.put, List.setIfInBounds_toArray, List.set_cons_zero, List.set_cons_succ]
  refine wpAnyH_take (i := 15) (v := (.bool false)) rfl (by kernel_rfl) (by kernel_rfl) (by kernel_rfl) (fun _ _ _ h => h) (Or.inl ⟨by rfl, by (intro w hSw; obtain ⟨s0, s1, s2⟩ := hSw; go_simp)⟩) hHeld2 ?_
  try simp only [List.getElem_toArray, List.getElem_cons_zero, List.getElem_cons_succ, Act.put, List.setIfInBounds_toArray, List.set_cons_zero, List.set_cons_succ]
  refine wpAnyH_take (i := 16) (v := (.int .i64 0)) rfl (by kernel_rfl) (by kernel_rfl) (by kernel_rfl) (fun _ _ _ h => h) (Or.inl ⟨by rfl, by (intro w hSw; obtain ⟨s0, s1, s2⟩ := hSw; go_simp)⟩) hHeld2 ?_
  try simp only [List.getElem_toArray, List.getElem_cons_zero, List.getElem_cons_succ, Act.put, List.setIfInBounds_toArray, List.set_cons_zero, List.set_cons_succ]
  refine wpAnyH_take (i := 17) (v := (.pointer (some ⟨g, 0, none⟩))) rfl (by kernel_rfl) (by kernel_rfl) (by kernel_rfl) (fun _ _ _ h => h) (Or.inl ⟨by rfl, by (intro w hSw; obtain ⟨s0, s1, s2⟩ := hSw; go_simp)⟩) hHeld2 ?_
  try simp only [List.getElem_toArray, List.getElem_cons_zero, List.getElem_cons_succ, Act.put, List.setIfInBounds_toArray, List.set_cons_zero, List.set_cons_succ]
  refine wpAnyH_take (i := 18) (v := (.pointer (some ⟨g, 34, none⟩))) rfl (by kernel_rfl) (by kernel_rfl) (by kernel_rfl) (fun _ _ _ h => h) (Or.inl ⟨by rfl, by (intro w hSw; obtain ⟨s0, s1, s2⟩ := hSw; go_simp)⟩) hHeld2 ?_
  try simp only [List.getElem_toArray, List.getElem_cons_zero, List.getElem_cons_succ, Act.put, List.setIfInBounds_toArray, List.set_cons_zero, List.set_cons_succ]
  refine wpAnyH_take (i := 19) (v := (.pointer (some ⟨g, 34, none⟩))) rfl (by kernel_rfl) (by kernel_rfl) (by kernel_rfl) (fun _ _ _ h => h) (Or.inl ⟨by rfl, by (intro w hSw; obtain ⟨s0, s1, s2⟩ := hSw; go_simp)⟩) hHeld2 ?_
  try simp only [List.getElem_toArray, List.getElem_cons_zero, List.getElem_cons_succ, Act.put, List.setIfInBounds_toArray, List.set_cons_zero, List.set_cons_succ]
  refine wpAnyH_take (i := 20) (v := (.pointer (some ⟨g, 35, none⟩))) rfl (by kernel_rfl) (by kernel_rfl) (by kernel_rfl) (fun _ _ _ h => h) (Or.inl ⟨by rfl, by (intro w hSw; obtain ⟨s0, s1, s2⟩ := hSw; go_simp)⟩) hHeld2 ?_
  try simp only [List.getElem_toArray, List.getElem_cons_zero, List.getElem_cons_succ, Act.put, List.setIfInBounds_toArray, List.set_cons_zero, List.set_cons_succ]
  refine wpAnyH_ready (rs := [21]) (by kernel_rfl) (by simp) ?_
  refine AllReadyH.cons rfl (fun K hK => ?_) AllReadyH.nil
  have HM4 := (HM3.out.ext (Ext.drew w3)).ext hx4.out
  have HM6 := HM4.setAt (firstF l : Nat)
  have c354 := HM4.oat
  have f354 := HM4.blk.frozen 35
  have zz6 : (w4.setCell ⟨g, 35, none⟩ (.int .i64 (firstF l : Nat))).cell? ⟨w.heap.size, 0, none⟩ = some (.pointer (some ⟨g, 0, none⟩)) := (set_other ((HBx.out.ext (Ext.drew w3)).ext hx4.out) (by omega) 35 _).cell 0
  have C06 := HM6.cell (k := 0) (by omega) HC0.out
  have C16 := HM6.cell (k := 1) (by omega) HC1.out
  go_simp
  refine hK.out _ _ ⟨zz6, C06, C16⟩ (fun hHeld3 => ?_)
  clear hK K hHeld2
  try simp only [List.getElem_toArray, List.getElem_cons_zero, List.getElem_cons_succ, Act.put, List.setIfInBounds_toArray, List.set_cons_zero, List.set_cons_succ]
  refine wpAnyH_done (by kernel_rfl) ?_ _
  have HM6 := Lib.hid HM6
  clear c35 f35 C1 C0 zz hx4 HGd HM4 c354 f354 zz6 C06 C16
  go_wp2_with fail
  go_ret
  exact HM6.out.done ⟨_, _, _, _, HM6.out.out, .inr (.inr (.inr (.inr ⟨rfl, rfl, .inr (.inl ⟨rfl, rfl, rfl⟩)⟩)))⟩

set_option maxRecDepth 20000 in
set_option maxHeartbeats 8000000 in
theorem plain_no {v0 w : World} {g n c a : Nat} {cs rs : Array Value} {A : Option Addr} {l : List Int} {rl : Nat → List Int} {k1 k2 k3 k4 k5 fk fa : Int} (h : CmdIn v0 w g cs A n c a rs rl k1 k2 k3 k4 k5 fk fa l) (hno : ¬ (k4 = 112 ∨ k4 = 80 ∨ k4 = 126 ∨ k4 = 114 ∨ k4 = 105 ∨ k4 = 73 ∨ k4 = 97 ∨ k4 = 65 ∨ k4 = 82)) :
    Calls Try.prog 30 #[.pointer (some ⟨g, 0, none⟩)] w (DoneIs g w (PlainOk n a rl k1 k2 k4) (PlainPost g l n a rl k1 k2 k4 k5 fk fa)) := by
  obtain ⟨h0, h1, hrs, h29, h30, h31, h32, h33⟩ := h.cells
  have hb := h.blk
  have X0 : Hid (∀ wx, Ext w wx → wx.cell? ⟨g, 0, none⟩ = some (.slice A n c)) := Lib.hid fun wx he => he.cell ((hb.cell 0).trans h0)
  have X1 : Hid (∀ wx, Ext w wx → wx.cell? ⟨g, 1, none⟩ = some (.int .i64 (a : Int))) := Lib.hid fun wx he => he.cell ((hb.cell 1).trans h1)
  have Y0 : Hid (∀ wx, Ext w wx → wx.cell? ⟨g, 29, none⟩ = some (.int .i64 k1)) := Lib.hid fun wx he => he.cell ((hb.cell 29).trans h29)
  have Y3 : Hid (∀ wx, Ext w wx → wx.cell? ⟨g, 32, none⟩ = some (.int .i64 k4)) := Lib.hid fun wx he => he.cell ((hb.cell 32).trans h32)
  have HC0 := Lib.hid h0
  have HC1 := Lib.hid h1
  have HC33 := Lib.hid h33
  have HI := Lib.hid h
  have hgw := hb.lt
  have hn := h.len
  have ha := h.place
  have hk := h.cnt.1
  have hk2 := h.cnt.2
  obtain ⟨N, hN⟩ : ∃ N : Nat, cntN k1 = N := ⟨_, rfl⟩
  have hmx : max 1 k1 = (N : Int) := by unfold cntN at hN; omega
  have hN1 : 1 ≤ N := by unfold cntN at hN; omega
  have hN9 : N ≤ 999 := by unfold cntN at hN; omega
  have HN := Lib.hid hN
  clear h h0 h1 hrs h29 h30 h31 h32 h33 hb hN
  have q1 : (k4 == 112) = false := by simp; omega
  have q2 : (k4 == 80) = false := by simp; omega
  have q3 : (k4 == 126) = false := by simp; omega
  have q4 : (k4 == 114) = false := by simp; omega
  have q5 : (k4 == 105) = false := by simp; omega
  have q6 : (k4 == 73) = false := by simp; omega
  have q7 : (k4 == 97) = false := by simp; omega
  have q8 : (k4 == 65) = false := by simp; omega
  have q9 : (k4 == 82) = false := by simp; omega
  have HNo := Lib.hid hno
  clear hno
  have hx1 := Lib.hid (Ext.alloc w (.cells #[.pointer (some ⟨g, 0, none⟩)] 55))
  have hb1 := Lib.hid (Blk.new w 55 #[.pointer (some ⟨g, 0, none⟩)])
  go_enter Try.func30, Try.ntmps30
  go_upto_region 1 with fail
  change Code.wp _ _ _ _ (w.alloc (.cells #[.pointer (some ⟨g, 0, none⟩)] 55))
  generalize w.alloc (.cells #[.pointer (some ⟨g, 0, none⟩)] 55) = w1 at *
  have z0 : w1.cell? ⟨w.heap.size, 0, none⟩ = some (.pointer (some ⟨g, 0, none⟩)) := hb1.out.cell 0
  have x0 := X0.out w1 hx1.out
  have x1 := X1.out w1 hx1.out
  have y0 := Y0.out w1 hx1.out
  have y3 := Y3.out w1 hx1.out
  go_quiet (fail)
  have hxq := Lib.hid (hx1.out.trans (Ext.drewN w1 nq))
  have hbq := Lib.hid (Blk.drewN hb1.out nq)
  clear x0 x1 y0 y3 z0 hx1 hb1
  generalize w1.drewN nq = w2 at *
  have z0 : w2.cell? ⟨w.heap.size, 0, none⟩ = some (.pointer (some ⟨g, 0, none⟩)) := hbq.out.cell 0
  have x1 := X1.out w2 hxq.out
  have y3 := Y3.out w2 hxq.out
  have HM2 := Lib.hid (HI.out.mid.ext hxq.out)
  go_wp2_with fail
  go_ret
  exact HM2.out.fail (by decide) (fun h => HNo.out h.2.2.2)

theorem plain_any {v0 w : World} {g n c a : Nat} {cs rs : Array Value} {A : Option Addr} {l : List Int} {rl : Nat → List Int} {k1 k2 k3 k4 k5 fk fa : Int} (h : CmdIn v0 w g cs A n c a rs rl k1 k2 k3 k4 k5 fk fa l) :
    Calls Try.prog 30 #[.pointer (some ⟨g, 0, none⟩)] w (DoneIs g w (PlainOk n a rl k1 k2 k4) (PlainPost g l n a rl k1 k2 k4 k5 fk fa)) := by
  by_cases hno : k4 = 112 ∨ k4 = 80 ∨ k4 = 126 ∨ k4 = 114 ∨ k4 = 105 ∨ k4 = 73 ∨ k4 = 97 ∨ k4 = 65 ∨ k4 = 82
  · rcases hno with rfl | rfl | rfl | rfl | rfl | rfl | rfl | rfl | rfl
    · exact plain_112 h
    · exact plain_80 h
    · exact plain_126 h
    · exact plain_114 h
    · exact plain_105 h
    · exact plain_73 h
    · exact plain_97 h
    · exact plain_65 h
    · exact plain_82 h
  · exact plain_no h hno
end Go.Proofs.Ytmhgndjmcignjaa
