/-
  The doer's plain: pasting, turning letters, putting characters in the place of others.
-/
import Derived.Test.YtmhgndjmcignjaaZDoV
import Derived.Test.YtmhgndjmcignjaaZDoW
import Derived.Test.YtmhgndjmcignjaaZDoN
import Derived.Test.YtmhgndjmcignjaaZJ15

namespace Go.Proofs.Ytmhgndjmcignjaa
open Go.RowKit
set_option linter.unusedVariables false
set_option linter.unusedSimpArgs false

/-- When plain does well. -/
def PlainOk (n a : Nat) (rl : Nat → List Int) (k1 k2 v : Int) : Prop :=
  (v = 112 ∨ v = 80 → PasteOk n rl k1 k2) ∧ (v = 126 → n ≠ 0) ∧ (v = 114 → cntN k1 + a ≤ n) ∧ (v = 112 ∨ v = 80 ∨ v = 126 ∨ v = 114 ∨ v = 105 ∨ v = 73 ∨ v = 97 ∨ v = 65 ∨ v = 82)
/-- What plain makes. -/
def PlainRel (l : List Int) (n a : Nat) (rl : Nat → List Int) (k1 k2 v k5 : Int) (m : List Int) (at_ md : Int) (e : List Spl) : Prop :=
  (v = 112 ∧ PasteRel l n (min (a + 1) n) rl k1 k2 m at_ e ∧ md = 0) ∨ (v = 80 ∧ PasteRel l n a rl k1 k2 m at_ e ∧ md = 0) ∨
  (v = 126 ∧ n ≠ 0 ∧ m = caseL l a (min (cntN k1) (n - a)) ∧ EdMakes l m e ∧ at_ = max 0 (min ((a : Int) + (min (cntN k1) (n - a) : Nat)) ((n : Int) - 1)) ∧ md = 0) ∨
  (v = 114 ∧ cntN k1 + a ≤ n ∧ m = fillL l a (cntN k1) k5 ∧ EdMakes l m e ∧ at_ = (a : Int) + (cntN k1 : Nat) - 1 ∧ md = 0) ∨
  (m = l ∧ e = [] ∧ ((v = 105 ∧ at_ = a ∧ md = 1) ∨ (v = 73 ∧ at_ = (firstF l : Nat) ∧ md = 1) ∨ (v = 97 ∧ at_ = (min (a + 1) n : Nat) ∧ md = 1) ∨ (v = 65 ∧ at_ = (n : Nat) ∧ md = 1) ∨ (v = 82 ∧ at_ = a ∧ md = 2)))
def PlainPost (g : Nat) (l : List Int) (n a : Nat) (rl : Nat → List Int) (k1 k2 v k5 fk fa : Int) (w : World) (cs : Array Value) : Prop :=
  ∃ m at_ md e, OutIs w (g + 1) cs m at_ md fk fa rl e ∧ PlainRel l n a rl k1 k2 v k5 m at_ md e

set_option maxRecDepth 20000 in
set_option maxHeartbeats 8000000 in
theorem plain_112 {v0 w : World} {g n c a : Nat} {cs rs : Array Value} {A : Option Addr} {l : List Int} {rl : Nat → List Int} {k1 k2 k3 k5 fk fa : Int} (h : CmdIn v0 w g cs A n c a rs rl k1 k2 k3 112 k5 fk fa l) :
    Calls Try.prog 30 #[.pointer (some ⟨g, 0, none⟩)] w (DoneIs g w (PlainOk n a rl k1 k2 112) (PlainPost g l n a rl k1 k2 112 k5 fk fa)) := by
  obtain ⟨h0, h1, hrs, h29, h30, h31, h32, h33⟩ := h.cells
  have hb := h.blk
  have X0 : Hid (∀ wx, Ext w wx → wx.cell? ⟨g, 0, none⟩ = some (.slice A n c)) := Lib.hid fun wx he => he.cell ((hb.cell 0).trans h0)
  have X1 : Hid (∀ wx, Ext w wx → wx.cell? ⟨g, 1, none⟩ = some (.int .i64 (a : Int))) := Lib.hid fun wx he => he.cell ((hb.cell 1).trans h1)
  have Y0 : Hid (∀ wx, Ext w wx → wx.cell? ⟨g, 29, none⟩ = some (.int .i64 k1)) := Lib.hid fun wx he => he.cell ((hb.cell 29).trans h29)
  have Y3 : Hid (∀ wx, Ext w wx → wx.cell? ⟨g, 32, none⟩ = some (.int .i64 112)) := Lib.hid fun wx he => he.cell ((hb.cell 32).trans h32)
  have HC0 := Lib.hid h0
  have HC1 := Lib.hid h1
  have HC33 := Lib.hid h33
  have HI := Lib.hid h
  have hgw := hb.lt
  have hn := h.len
  have ha := h.place
  have hk := h.cnt.1
  have hk2 := h.cnt.2
  obtain ⟨N, hN⟩ : ∃ N : Nat, cntN k1 = N := ⟨_, rfl⟩
  have hmx : max 1 k1 = (N : Int) := by unfold cntN at hN; omega
  have hN1 : 1 ≤ N := by unfold cntN at hN; omega
  have hN9 : N ≤ 999 := by unfold cntN at hN; omega
  have HN := Lib.hid hN
  clear h h0 h1 hrs h29 h30 h31 h32 h33 hb hN
  have hx1 := Lib.hid (Ext.alloc w (.cells #[.pointer (some ⟨g, 0, none⟩)] 55))
  have hb1 := Lib.hid (Blk.new w 55 #[.pointer (some ⟨g, 0, none⟩)])
  go_enter Try.func30, Try.ntmps30
  go_upto_region 1 with fail
  change Code.wp _ _ _ _ (w.alloc (.cells #[.pointer (some ⟨g, 0, none⟩)] 55))
  generalize w.alloc (.cells #[.pointer (some ⟨g, 0, none⟩)] 55) = w1 at *
  have z0 : w1.cell? ⟨w.heap.size, 0, none⟩ = some (.pointer (some ⟨g, 0, none⟩)) := hb1.out.cell 0
  have x0 := X0.out w1 hx1.out
  have x1 := X1.out w1 hx1.out
  have y0 := Y0.out w1 hx1.out
  have y3 := Y3.out w1 hx1.out
  go_quiet (fail)
  have hxq := Lib.hid (hx1.out.trans (Ext.drewN w1 nq))
  have hbq := Lib.hid (Blk.drewN hb1.out nq)
  clear x0 x1 y0 y3 z0 hx1 hb1
  generalize w1.drewN nq = w2 at *
  have z0 : w2.cell? ⟨w.heap.size, 0, none⟩ = some (.pointer (some ⟨g, 0, none⟩)) := hbq.out.cell 0
  have x1 := X1.out w2 hxq.out
  have y3 := Y3.out w2 hxq.out
  have HM2 := Lib.hid (HI.out.mid.ext hxq.out)
  obtain ⟨P, hP⟩ : ∃ P : Nat, min (a + 1) n = P := ⟨_, rfl⟩
  have hPn : P ≤ n := by omega
  have hmn : min ((a : Int) + 1) (n : Int) = (P : Int) := by omega
  have hwr : IntKind.i64.wrap ((a : Int) + 1) = (a : Int) + 1 := IntWalk.i64_in _ (by omega)
  have HPd := Lib.hid hP
  clear hP
  have HP := Lib.hid (paste_ok (p := P) (HI.out.wext (hxq.out.trans (Ext.drew w2))) hPn)
  go_upto_region 5 with fail
  go_region_law (first
    | (refine step_callf rfl 39 #[.pointer (some ⟨g, 0, none⟩), .int .i64 (P : Int)] rfl (by kernel_rfl) (fun v w' => ∃ er, v = .int .i64 er ∧ Hid (DoneIs g w2.drew (PasteOk n rl k1 k2) (PastePost g l n P rl k1 k2 fk fa) (.returned (.int .i64 er)) w')) (HP.out.mono fun e w' h => by obtain ⟨er, cs', h1, h2⟩ := h; exact ⟨_, h1, er, rfl, Lib.hid ⟨er, cs', rfl, h2⟩⟩) ?_
       rintro v w3 ⟨er, rfl, hD⟩))
  all_goals
    have HF : Hid (DoneIs g w (PlainOk n a rl k1 k2 112) (PlainPost g l n a rl k1 k2 112 k5 fk fa) (.returned (.int .i64 er)) w3) := Lib.hid (hD.out.from (ext_grows (hxq.out.trans (Ext.drew w2)) (some g)) (fun h => h.1 (.inl rfl)) (fun cs' ⟨m, at_, e, h1, h2⟩ => ⟨m, at_, 0, e, h1, .inl ⟨rfl, by rw [HPd.out]; exact h2, rfl⟩⟩))
    clear hD HP z0 x1 y3
    go_wp2_with fail
    go_ret
    exact HF.out

set_option maxRecDepth 20000 in
set_option maxHeartbeats 8000000 in
theorem plain_80 {v0 w : World} {g n c a : Nat} {cs rs : Array Value} {A : Option Addr} {l : List Int} {rl : Nat → List Int} {k1 k2 k3 k5 fk fa : Int} (h : CmdIn v0 w g cs A n c a rs rl k1 k2 k3 80 k5 fk fa l) :
    Calls Try.prog 30 #[.pointer (some ⟨g, 0, none⟩)] w (DoneIs g w (PlainOk n a rl k1 k2 80) (PlainPost g l n a rl k1 k2 80 k5 fk fa)) := by
  obtain ⟨h0, h1, hrs, h29, h30, h31, h32, h33⟩ := h.cells
  have hb := h.blk
  have X0 : Hid (∀ wx, Ext w wx → wx.cell? ⟨g, 0, none⟩ = some (.slice A n c)) := Lib.hid fun wx he => he.cell ((hb.cell 0).trans h0)
  have X1 : Hid (∀ wx, Ext w wx → wx.cell? ⟨g, 1, none⟩ = some (.int .i64 (a : Int))) := Lib.hid fun wx he => he.cell ((hb.cell 1).trans h1)
  have Y0 : Hid (∀ wx, Ext w wx → wx.cell? ⟨g, 29, none⟩ = some (.int .i64 k1)) := Lib.hid fun wx he => he.cell ((hb.cell 29).trans h29)
  have Y3 : Hid (∀ wx, Ext w wx → wx.cell? ⟨g, 32, none⟩ = some (.int .i64 80)) := Lib.hid fun wx he => he.cell ((hb.cell 32).trans h32)
  have HC0 := Lib.hid h0
  have HC1 := Lib.hid h1
  have HC33 := Lib.hid h33
  have HI := Lib.hid h
  have hgw := hb.lt
  have hn := h.len
  have ha := h.place
  have hk := h.cnt.1
  have hk2 := h.cnt.2
  obtain ⟨N, hN⟩ : ∃ N : Nat, cntN k1 = N := ⟨_, rfl⟩
  have hmx : max 1 k1 = (N : Int) := by unfold cntN at hN; omega
  have hN1 : 1 ≤ N := by unfold cntN at hN; omega
  have hN9 : N ≤ 999 := by unfold cntN at hN; omega
  have HN := Lib.hid hN
  clear h h0 h1 hrs h29 h30 h31 h32 h33 hb hN
  have hx1 := Lib.hid (Ext.alloc w (.cells #[.pointer (some ⟨g, 0, none⟩)] 55))
  have hb1 := Lib.hid (Blk.new w 55 #[.pointer (some ⟨g, 0, none⟩)])
  go_enter Try.func30, Try.ntmps30
  go_upto_region 1 with fail
  change Code.wp _ _ _ _ (w.alloc (.cells #[.pointer (some ⟨g, 0, none⟩)] 55))
  generalize w.alloc (.cells #[.pointer (some ⟨g, 0, none⟩)] 55) = w1 at *
  have z0 : w1.cell? ⟨w.heap.size, 0, none⟩ = some (.pointer (some ⟨g, 0, none⟩)) := hb1.out.cell 0
  have x0 := X0.out w1 hx1.out
  have x1 := X1.out w1 hx1.out
  have y0 := Y0.out w1 hx1.out
  have y3 := Y3.out w1 hx1.out
  go_quiet (fail)
  have hxq := Lib.hid (hx1.out.trans (Ext.drewN w1 nq))
  have hbq := Lib.hid (Blk.drewN hb1.out nq)
  clear x0 x1 y0 y3 z0 hx1 hb1
  generalize w1.drewN nq = w2 at *
  have z0 : w2.cell? ⟨w.heap.size, 0, none⟩ = some (.pointer (some ⟨g, 0, none⟩)) := hbq.out.cell 0
  have x1 := X1.out w2 hxq.out
  have y3 := Y3.out w2 hxq.out
  have HM2 := Lib.hid (HI.out.mid.ext hxq.out)
  have hPn : a ≤ n := by omega
  have HP := Lib.hid (paste_ok (p := a) (HI.out.wext (hxq.out.trans (Ext.drew w2))) hPn)
  go_upto_region 7 with fail
  go_region_law (first
    | (refine step_callf rfl 39 #[.pointer (some ⟨g, 0, none⟩), .int .i64 (a : Int)] rfl (by kernel_rfl) (fun v w' => ∃ er, v = .int .i64 er ∧ Hid (DoneIs g w2.drew (PasteOk n rl k1 k2) (PastePost g l n a rl k1 k2 fk fa) (.returned (.int .i64 er)) w')) (HP.out.mono fun e w' h => by obtain ⟨er, cs', h1, h2⟩ := h; exact ⟨_, h1, er, rfl, Lib.hid ⟨er, cs', rfl, h2⟩⟩) ?_
       rintro v w3 ⟨er, rfl, hD⟩))
  all_goals
    have HF : Hid (DoneIs g w (PlainOk n a rl k1 k2 80) (PlainPost g l n a rl k1 k2 80 k5 fk fa) (.returned (.int .i64 er)) w3) := Lib.hid (hD.out.from (ext_grows (hxq.out.trans (Ext.drew w2)) (some g)) (fun h => h.1 (.inr rfl)) (fun cs' ⟨m, at_, e, h1, h2⟩ => ⟨m, at_, 0, e, h1, .inr (.inl ⟨rfl, h2, rfl⟩)⟩))
    clear hD HP z0 x1 y3
    go_wp2_with fail
    go_ret
    exact HF.out

set_option maxRecDepth 20000 in
set_option maxHeartbeats 8000000 in
theorem plain_126 {v0 w : World} {g n c a : Nat} {cs rs : Array Value} {A : Option Addr} {l : List Int} {rl : Nat → List Int} {k1 k2 k3 k5 fk fa : Int} (h : CmdIn v0 w g cs A n c a rs rl k1 k2 k3 126 k5 fk fa l) :
    Calls Try.prog 30 #[.pointer (some ⟨g, 0, none⟩)] w (DoneIs g w (PlainOk n a rl k1 k2 126) (PlainPost g l n a rl k1 k2 126 k5 fk fa)) := by
  obtain ⟨h0, h1, hrs, h29, h30, h31, h32, h33⟩ := h.cells
  have hb := h.blk
  have X0 : Hid (∀ wx, Ext w wx → wx.cell? ⟨g, 0, none⟩ = some (.slice A n c)) := Lib.hid fun wx he => he.cell ((hb.cell 0).trans h0)
  have X1 : Hid (∀ wx, Ext w wx → wx.cell? ⟨g, 1, none⟩ = some (.int .i64 (a : Int))) := Lib.hid fun wx he => he.cell ((hb.cell 1).trans h1)
  have Y0 : Hid (∀ wx, Ext w wx → wx.cell? ⟨g, 29, none⟩ = some (.int .i64 k1)) := Lib.hid fun wx he => he.cell ((hb.cell 29).trans h29)
  have Y3 : Hid (∀ wx, Ext w wx → wx.cell? ⟨g, 32, none⟩ = some (.int .i64 126)) := Lib.hid fun wx he => he.cell ((hb.cell 32).trans h32)
  have HC0 := Lib.hid h0
  have HC1 := Lib.hid h1
  have HC33 := Lib.hid h33
  have HI := Lib.hid h
  have hgw := hb.lt
  have hn := h.len
  have ha := h.place
  have hk := h.cnt.1
  have hk2 := h.cnt.2
  obtain ⟨N, hN⟩ : ∃ N : Nat, cntN k1 = N := ⟨_, rfl⟩
  have hmx : max 1 k1 = (N : Int) := by unfold cntN at hN; omega
  have hN1 : 1 ≤ N := by unfold cntN at hN; omega
  have hN9 : N ≤ 999 := by unfold cntN at hN; omega
  have HN := Lib.hid hN
  clear h h0 h1 hrs h29 h30 h31 h32 h33 hb hN
  have hx1 := Lib.hid (Ext.alloc w (.cells #[.pointer (some ⟨g, 0, none⟩)] 55))
  have hb1 := Lib.hid (Blk.new w 55 #[.pointer (some ⟨g, 0, none⟩)])
  go_enter Try.func30, Try.ntmps30
  go_upto_region 1 with fail
  change Code.wp _ _ _ _ (w.alloc (.cells #[.pointer (some ⟨g, 0, none⟩)] 55))
  generalize w.alloc (.cells #[.pointer (some ⟨g, 0, none⟩)] 55) = w1 at *
  have z0 : w1.cell? ⟨w.heap.size, 0, none⟩ = some (.pointer (some ⟨g, 0, none⟩)) := hb1.out.cell 0
  have x0 := X0.out w1 hx1.out
  have x1 := X1.out w1 hx1.out
  have y0 := Y0.out w1 hx1.out
  have y3 := Y3.out w1 hx1.out
  go_quiet (fail)
  have hxq := Lib.hid (hx1.out.trans (Ext.drewN w1 nq))
  have hbq := Lib.hid (Blk.drewN hb1.out nq)
  clear x0 x1 y0 y3 z0 hx1 hb1
  generalize w1.drewN nq = w2 at *
  have z0 : w2.cell? ⟨w.heap.size, 0, none⟩ = some (.pointer (some ⟨g, 0, none⟩)) := hbq.out.cell 0
  have x1 := X1.out w2 hxq.out
  have y3 := Y3.out w2 hxq.out
  have HM2 := Lib.hid (HI.out.mid.ext hxq.out)
  by_cases hn0 : n = 0
  · subst hn0
    go_wp2_with fail
    go_ret
    exact HM2.out.fail (by decide) (fun h => h.2.1 rfl rfl)
  have hnn : ((n : Int) == 0) = false := by simp; omega
  obtain ⟨k, hkk⟩ : ∃ k : Nat, min N (n - a) = k := ⟨_, rfl⟩
  have hmn : min (N : Int) ((n : Int) - (a : Int)) = (k : Int) := by omega
  have hwr : IntKind.i64.wrap ((n : Int) - (a : Int)) = (n : Int) - (a : Int) := IntWalk.i64_in _ (by omega)
  have hka : a + k ≤ n := by omega
  have HK := Lib.hid hkk
  clear hkk
  have HCh := Lib.hid (change_ok (k := k) HM2.out.blk HC0.out HC1.out (HI.out.mid.out.text.choose_spec.choose_spec.choose_spec.1) (HI.out.mid.out.edit.choose_spec.1) (HI.out.line.ext (HI.out.ext.trans hxq.out)) hn hka)
  go_wp2_with fail
  refine HCh.out.mono ?_
  rintro e w3 ⟨⟨u, rfl⟩, hput⟩
  have zz : w3.cell? ⟨w.heap.size, 0, none⟩ = some (.pointer (some ⟨g, 0, none⟩)) := (Blk.grown hbq.out hput.1 (fun e => by injection e with e; omega)).cell 0
  obtain ⟨cs3, e3, hm3, hmk⟩ := HM2.out.put hput
  have C1 : w3.cell? ⟨g, 1, none⟩ = some (.int .i64 (a : Int)) := hm3.cell (by omega) HC1.out
  have c35 := hm3.oat
  have f35 := hm3.blk.frozen 35
  have HMK := Lib.hid hmk
  have HM3 := Lib.hid hm3
  have hwr2 : IntKind.i64.wrap ((a : Int) + (k : Int)) = (a : Int) + (k : Int) := IntWalk.i64_in _ (by omega)
  clear hput hm3 hmk HCh x1 y3 z0
  have HM6 := Lib.hid ((HM3.out.setAt (max 0 (min ((a : Int) + (k : Int)) ((n : Int) - 1)))).ext (Ext.drew _))
  have HCl := Lib.hid (clamp_ok ((a : Int) + (k : Int)) (n : Int) w3.drew (by omega) (by omega))
  clear hmx hmn hwr hnn
  go_upto_region 13 with fail
  go_region_law (first
    | (refine step_callf rfl 42 #[.int .i64 ((a : Int) + (k : Int)), .int .i64 (n : Int)] rfl (by kernel_rfl) (fun v w' => v = .int .i64 (max 0 (min ((a : Int) + (k : Int)) ((n : Int) - 1))) ∧ w3.drew = w') (HCl.out.mono fun e w' ⟨h1, h2⟩ => ⟨_, h1, rfl, h2⟩) ?_
       rintro v w4 ⟨rfl, rfl⟩))
  all_goals
    clear HCl hwr2 c35 f35 C1 zz
    go_wp2_with fail
    go_ret
    exact HM6.out.done ⟨_, _, _, _, HM6.out.out, .inr (.inr (.inl ⟨rfl, hn0, by rw [HN.out, HK.out], HMK.out, by rw [HN.out, HK.out], rfl⟩))⟩

set_option maxRecDepth 20000 in
set_option maxHeartbeats 8000000 in
theorem plain_114 {v0 w : World} {g n c a : Nat} {cs rs : Array Value} {A : Option Addr} {l : List Int} {rl : Nat → List Int} {k1 k2 k3 k5 fk fa : Int} (h : CmdIn v0 w g cs A n c a rs rl k1 k2 k3 114 k5 fk fa l) :
    Calls Try.prog 30 #[.pointer (some ⟨g, 0, none⟩)] w (DoneIs g w (PlainOk n a rl k1 k2 114) (PlainPost g l n a rl k1 k2 114 k5 fk fa)) := by
  obtain ⟨h0, h1, hrs, h29, h30, h31, h32, h33⟩ := h.cells
  have hb := h.blk
  have X0 : Hid (∀ wx, Ext w wx → wx.cell? ⟨g, 0, none⟩ = some (.slice A n c)) := Lib.hid fun wx he => he.cell ((hb.cell 0).trans h0)
  have X1 : Hid (∀ wx, Ext w wx → wx.cell? ⟨g, 1, none⟩ = some (.int .i64 (a : Int))) := Lib.hid fun wx he => he.cell ((hb.cell 1).trans h1)
  have Y0 : Hid (∀ wx, Ext w wx → wx.cell? ⟨g, 29, none⟩ = some (.int .i64 k1)) := Lib.hid fun wx he => he.cell ((hb.cell 29).trans h29)
  have Y3 : Hid (∀ wx, Ext w wx → wx.cell? ⟨g, 32, none⟩ = some (.int .i64 114)) := Lib.hid fun wx he => he.cell ((hb.cell 32).trans h32)
  have HC0 := Lib.hid h0
  have HC1 := Lib.hid h1
  have HC33 := Lib.hid h33
  have HI := Lib.hid h
  have hgw := hb.lt
  have hn := h.len
  have ha := h.place
  have hk := h.cnt.1
  have hk2 := h.cnt.2
  obtain ⟨N, hN⟩ : ∃ N : Nat, cntN k1 = N := ⟨_, rfl⟩
  have hmx : max 1 k1 = (N : Int) := by unfold cntN at hN; omega
  have hN1 : 1 ≤ N := by unfold cntN at hN; omega
  have hN9 : N ≤ 999 := by unfold cntN at hN; omega
  have HN := Lib.hid hN
  clear h h0 h1 hrs h29 h30 h31 h32 h33 hb hN
  have hx1 := Lib.hid (Ext.alloc w (.cells #[.pointer (some ⟨g, 0, none⟩)] 55))
  have hb1 := Lib.hid (Blk.new w 55 #[.pointer (some ⟨g, 0, none⟩)])
  go_enter Try.func30, Try.ntmps30
  go_upto_region 1 with fail
  change Code.wp _ _ _ _ (w.alloc (.cells #[.pointer (some ⟨g, 0, none⟩)] 55))
  generalize w.alloc (.cells #[.pointer (some ⟨g, 0, none⟩)] 55) = w1 at *
  have z0 : w1.cell? ⟨w.heap.size, 0, none⟩ = some (.pointer (some ⟨g, 0, none⟩)) := hb1.out.cell 0
  have x0 := X0.out w1 hx1.out
  have x1 := X1.out w1 hx1.out
  have y0 := Y0.out w1 hx1.out
  have y3 := Y3.out w1 hx1.out
  go_quiet (fail)
  have hxq := Lib.hid (hx1.out.trans (Ext.drewN w1 nq))
  have hbq := Lib.hid (Blk.drewN hb1.out nq)
  clear x0 x1 y0 y3 z0 hx1 hb1
  generalize w1.drewN nq = w2 at *
  have z0 : w2.cell? ⟨w.heap.size, 0, none⟩ = some (.pointer (some ⟨g, 0, none⟩)) := hbq.out.cell 0
  have x1 := X1.out w2 hxq.out
  have y3 := Y3.out w2 hxq.out
  have HM2 := Lib.hid (HI.out.mid.ext hxq.out)
  have hwr : IntKind.i64.wrap ((n : Int) - (a : Int)) = (n : Int) - (a : Int) := IntWalk.i64_in _ (by omega)
  by_cases hNa : N + a ≤ n
  case neg =>
    have hlt : (n : Int) - (a : Int) < (N : Int) := by omega
    have HNo : Hid (¬ PlainOk n a rl k1 k2 114) := Lib.hid (fun h => by
      have h2 := h.2.2.1 rfl
      rw [HN.out] at h2
      exact hNa h2)
    have x0 := X0.out w2 hxq.out
    clear hNa
    go_wp2_with fail
    go_ret
    exact HM2.out.fail (by decide) HNo.out
  have hle : ¬ (n : Int) - (a : Int) < (N : Int) := by omega
  have hka : a + N ≤ n := by omega
  have HCh := Lib.hid (change_arg (k := N) HM2.out.blk HC0.out HC1.out (HI.out.mid.out.text.choose_spec.choose_spec.choose_spec.1) (HI.out.mid.out.edit.choose_spec.1) HC33.out hbq.out (HI.out.line.ext (HI.out.ext.trans hxq.out)) hn hka)
  go_wp2_with fail
  refine HCh.out.mono ?_
  rintro e w3 ⟨⟨u, rfl⟩, hput⟩
  have zz : w3.cell? ⟨w.heap.size, 0, none⟩ = some (.pointer (some ⟨g, 0, none⟩)) := (Blk.grown hbq.out hput.1 (fun e => by injection e with e; omega)).cell 0
  obtain ⟨cs3, e3, hm3, hmk⟩ := HM2.out.put hput
  have C1 : w3.cell? ⟨g, 1, none⟩ = some (.int .i64 (a : Int)) := hm3.cell (by omega) HC1.out
  have c35 := hm3.oat
  have f35 := hm3.blk.frozen 35
  have HMK := Lib.hid hmk
  have HM3 := Lib.hid hm3
  have hwr2 : IntKind.i64.wrap ((a : Int) + (N : Int)) = (a : Int) + (N : Int) := IntWalk.i64_in _ (by omega)
  clear hput hm3 hmk HCh x1 y3 z0
  have HM6 := Lib.hid ((HM3.out.setAt ((a : Int) + (N : Int) - 1)).ext (Ext.drew _))
  have hwr3 : IntKind.i64.wrap ((a : Int) + (N : Int) - 1) = (a : Int) + (N : Int) - 1 := IntWalk.i64_in _ (by omega)
  clear hmx hwr hle
  go_upto_region 18 with fail
  go_region_law (fail)
  all_goals
    clear hwr2 hwr3 c35 f35 C1 zz
    go_wp2_with fail
    go_ret
    exact HM6.out.done ⟨_, _, _, _, HM6.out.out, .inr (.inr (.inr (.inl ⟨rfl, by rw [HN.out]; exact hNa, by rw [HN.out], HMK.out, by rw [HN.out], rfl⟩)))⟩
end Go.Proofs.Ytmhgndjmcignjaa
