/-
  The doer's plain command that turns letters.
-/
import Derived.Test.YtmhgndjmcignjaaZDoC

namespace Go.Proofs.Ytmhgndjmcignjaa
open Go.RowKit
set_option linter.unusedVariables false
set_option linter.unusedSimpArgs false

theorem clamp_ok (x y : Int) (w : World) (hx : -1000000 ≤ x ∧ x ≤ 1000000) (hy : 0 ≤ y ∧ y ≤ 1000000) : Calls Try.prog 42 #[.int .i64 x, .int .i64 y] w fun e w' => e = .returned (.int .i64 (max 0 (min x (y - 1)))) ∧ w = w' := by
  have hwr : IntKind.i64.wrap (y - 1) = y - 1 := IntWalk.i64_in _ (by omega)
  go_enter Try.func42, Try.ntmps42
  go_wp2_with fail
  all_goals
    go_ret
    refine ⟨?_, rfl⟩
    show Ending.returned (Value.int .i64 _) = _
    first
      | (congr 2; omega)
      | (congr 2)

theorem DoerIs.one {w : World} {g : Nat} {cs : Array Value} {A : Option Addr} {n c : Nat} {a : Int} {rs : Array Value} {rl : Nat → List Int} {k1 k2 k3 k4 k5 fk fa : Int} {B : Option Addr} {d : Nat} (h : DoerIs w g cs A n c a rs rl k1 k2 k3 k4 k5 fk fa B d) : ∀ k v, 34 ≤ k → cs[k]? = some v → v.oneCell' = true := by
  intro k v hk hv
  have hlt : k < 67 := by
    have := (Array.getElem?_eq_some_iff.1 hv).1
    rw [h.size] at this
    exact this
  by_cases h1 : k = 34
  · subst h1; rw [h.out] at hv; injection hv with hv; subst hv; rfl
  · by_cases h2 : k = 35
    · subst h2; rw [h.oat] at hv; injection hv with hv; subst hv; rfl
    · by_cases h3 : k < 63
      · obtain ⟨u, hu, C, m, e, rfl, _⟩ := h.oregs (k - 36) (by omega)
        rw [show 36 + (k - 36) = k by omega] at hu
        rw [hu] at hv; injection hv with hv; subst hv; rfl
      · have h4 : k = 63 ∨ k = 64 ∨ k = 65 ∨ k = 66 := by omega
        rcases h4 with rfl | rfl | rfl | rfl
        · rw [h.c63] at hv; injection hv with hv; subst hv; rfl
        · rw [h.c64] at hv; injection hv with hv; subst hv; rfl
        · rw [h.c65] at hv; injection hv with hv; subst hv; rfl
        · rw [h.c66] at hv; injection hv with hv; subst hv; rfl
theorem one_set {cs : Array Value} {i : Nat} {u : Value} (h : ∀ k v, 34 ≤ k → cs[k]? = some v → v.oneCell' = true) (hu : u.oneCell' = true) : ∀ k v, 34 ≤ k → (cs.setIfInBounds i u)[k]? = some v → v.oneCell' = true := by
  intro k v hk hv
  by_cases hik : i = k
  · subst hik
    rw [Array.getElem?_setIfInBounds_self] at hv
    split at hv
    · injection hv with hv; subst hv; exact hu
    · cases hv
  · rw [Array.getElem?_setIfInBounds_ne hik] at hv
    exact h k v hk hv
/-- What comes of a command: a line's text. -/
def TextIs (b : Nat) (m : List Int) (w : World) (cs : Array Value) : Prop := m ≠ [] ∧ ∃ B q d, cs[34]? = some (.slice B q d) ∧ OwnI w b B q d m

theorem caseL_len {l : List Int} {a k : Nat} (h : a + k ≤ l.length) : (caseL l a k).length = l.length := by
  unfold caseL
  simp
  omega

set_option maxRecDepth 20000 in
set_option maxHeartbeats 4000000 in
theorem plain_case {w : World} {b g n c a d : Nat} {cs rs : Array Value} {A B : Option Addr} {l : List Int} {rl : Nat → List Int} {k1 k2 k5 fk fa : Int} (hb : Blk w g 57 cs) (hd : DoerIs w g cs A n c (a : Int) rs rl k1 k2 0 126 k5 fk fa B d) (hl : Ints w A n c l) (hn : n ≤ 200) (ha : a ≤ n) (hk : 0 ≤ k1) (hk2 : k1 ≤ 999) (hbg : b ≤ w.heap.size) :
    Calls Try.prog 30 #[.pointer (some ⟨g, 0, none⟩)] w (DoneIs g w (n ≠ 0) (TextIs b (caseL l a (min (max 1 k1.toNat) (n - a))))) := by
  obtain ⟨m, hm⟩ : ∃ m : Nat, max 1 k1.toNat = m := ⟨_, rfl⟩
  obtain ⟨k, hkk⟩ : ∃ k : Nat, min m (n - a) = k := ⟨_, rfl⟩
  have x0 : ∀ wx, Ext w wx → wx.cell? ⟨g, 0, none⟩ = some (.slice A n c) := fun wx he => he.cell ((hb.cell 0).trans hd.text)
  have x1 : ∀ wx, Ext w wx → wx.cell? ⟨g, 1, none⟩ = some (.int .i64 (a : Int)) := fun wx he => he.cell ((hb.cell 1).trans hd.at_)
  have y0 : ∀ wx, Ext w wx → wx.cell? ⟨g, 29, none⟩ = some (.int .i64 k1) := fun wx he => he.cell ((hb.cell 29).trans hd.c29)
  have y3 : ∀ wx, Ext w wx → wx.cell? ⟨g, 32, none⟩ = some (.int .i64 126) := fun wx he => he.cell ((hb.cell 32).trans hd.c32)
  have X0 := Lib.hid x0
  have X1 := Lib.hid x1
  have Y0 := Lib.hid y0
  have Y3 := Lib.hid y3
  have HB := Lib.hid hb
  have HD := Lib.hid hd
  have HL := Lib.hid hl
  have hm1 : 1 ≤ m := by omega
  have hm2 : m ≤ 999 := by omega
  have hmx : max 1 k1 = (m : Int) := by omega
  have hmn : min (m : Int) ((n : Int) - (a : Int)) = (k : Int) := by omega
  have hwr : IntKind.i64.wrap ((n : Int) - (a : Int)) = (n : Int) - (a : Int) := IntWalk.i64_in _ (by omega)
  have hka : a + k ≤ n := by omega
  rw [hm, hkk]
  clear x0 x1 y0 y3 hb hd hl hm hkk
  have hx1 := Lib.hid (Ext.alloc w (.cells #[.pointer (some ⟨g, 0, none⟩)] 55))
  have hb1 := Lib.hid (Blk.new w 55 #[.pointer (some ⟨g, 0, none⟩)])
  go_enter Try.func30, Try.ntmps30
  go_upto_region 1 with fail
  change Code.wp _ _ _ _ (w.alloc (.cells #[.pointer (some ⟨g, 0, none⟩)] 55))
  generalize w.alloc (.cells #[.pointer (some ⟨g, 0, none⟩)] 55) = w1 at *
  have z0 : w1.cell? ⟨w.heap.size, 0, none⟩ = some (.pointer (some ⟨g, 0, none⟩)) := hb1.out.cell 0
  have x0 := X0.out w1 hx1.out
  have x1 := X1.out w1 hx1.out
  have y0 := Y0.out w1 hx1.out
  have y3 := Y3.out w1 hx1.out
  go_quiet (fail)
  have hxq := Lib.hid (hx1.out.trans (Ext.drewN w1 nq))
  have hbq := Lib.hid (Blk.drewN hb1.out nq)
  clear x0 x1 y0 y3 z0 hx1 hb1
  generalize w1.drewN nq = w2 at *
  have z0 : w2.cell? ⟨w.heap.size, 0, none⟩ = some (.pointer (some ⟨g, 0, none⟩)) := hbq.out.cell 0
  have x1 := X1.out w2 hxq.out
  have y3 := Y3.out w2 hxq.out
  by_cases hn0 : n = 0
  · subst hn0
    have hgx := Lib.hid (ext_grows hxq.out (some g))
    go_wp2_with fail
    go_ret
    exact ⟨5, cs, rfl, hgx.out, fun h => absurd rfl h, fun h => by cases h⟩
  · have hnn : ((n : Int) == 0) = false := by simp; omega
    have HCh := Lib.hid (change_ok (k := k) (HB.out.ext hxq.out) HD.out.text HD.out.at_ HD.out.out HD.out.c66 (HL.out.ext hxq.out) hn hka)
    go_wp2_with fail
    refine HCh.out.mono ?_
    rintro e w3 ⟨⟨u, rfl⟩, hgr, B2, q2, b2, O2, o2, z2, e2, hb3, ho3, _, _⟩
    have hz67 := HD.out.size
    have C1 : w3.cell? ⟨g, 1, none⟩ = some (.int .i64 (a : Int)) := by
      rw [hb3.cell 1, Array.getElem?_setIfInBounds_ne (by omega), Array.getElem?_setIfInBounds_ne (by omega)]; exact HD.out.at_
    have zz : w3.cell? ⟨w.heap.size, 0, none⟩ = some (.pointer (some ⟨g, 0, none⟩)) := by
      have hgw : g < w.heap.size := HB.out.lt
      have := (Blk.grown hbq.out hgr (fun e => by injection e with e; omega)).cell 0
      simpa using this
    have c35 : w3.cell? ⟨g, 35, none⟩ = some (.int .i64 (a : Int)) := by
      rw [hb3.cell 35, Array.getElem?_setIfInBounds_ne (by omega), Array.getElem?_setIfInBounds_ne (by omega)]; exact HD.out.oat
    have f35 := hb3.frozen 35
    have HB3 := Lib.hid (hb3.set_ 35 (.int .i64 (max 0 (min ((a : Int) + (k : Int)) ((n : Int) - 1)))))
    have HG3 := Lib.hid (grows_trans (grows_trans (ext_grows hxq.out (some g)) hgr) (set_grows w3 ⟨g, 35, none⟩ (.int .i64 (max 0 (min ((a : Int) + (k : Int)) ((n : Int) - 1))))))
    have hgb : g < w2.heap.size := Nat.lt_of_lt_of_le HB.out.lt hxq.out.hsize
    have HT3 := Lib.hid (Own.lower (Own.setCell ho3 (p := ⟨g, 35, none⟩) hgb (.int .i64 (max 0 (min ((a : Int) + (k : Int)) ((n : Int) - 1))))) (Nat.le_trans hbg hxq.out.hsize))
    have hone : ∀ k' v, 34 ≤ k' → (((cs.setIfInBounds 66 (.slice O2 o2 z2)).setIfInBounds 34 (.slice B2 q2 b2)).setIfInBounds 35 (.int .i64 (max 0 (min ((a : Int) + (k : Int)) ((n : Int) - 1)))))[k']? = some v → v.oneCell' = true := one_set (one_set (one_set HD.out.one rfl) rfl) rfl
    have HON := Lib.hid hone
    have HCl := Lib.hid (clamp_ok ((a : Int) + (k : Int)) (n : Int) w3.drew (by omega) (by omega))
    have hwr2 : IntKind.i64.wrap ((a : Int) + (k : Int)) = (a : Int) + (k : Int) := IntWalk.i64_in _ (by omega)
    have H67 : Hid ((((cs.setIfInBounds 66 (.slice O2 o2 z2)).setIfInBounds 34 (.slice B2 q2 b2)).setIfInBounds 35 (.int .i64 (max 0 (min ((a : Int) + (k : Int)) ((n : Int) - 1))))).size = 67) := Lib.hid (by simpa using hz67)
    have H34' : Hid ((((cs.setIfInBounds 66 (.slice O2 o2 z2)).setIfInBounds 34 (.slice B2 q2 b2)).setIfInBounds 35 (.int .i64 (max 0 (min ((a : Int) + (k : Int)) ((n : Int) - 1)))))[34]? = some (.slice B2 q2 b2)) := Lib.hid (by
      rw [Array.getElem?_setIfInBounds_ne (by omega), Array.getElem?_setIfInBounds_self, if_pos (by simp [hz67])])
    clear hgr hb3 ho3 hone HCh x1 y3 z0 hz67 hgb hmx hmn hwr hnn
    generalize hcs3 : ((cs.setIfInBounds 66 (.slice O2 o2 z2)).setIfInBounds 34 (.slice B2 q2 b2)).setIfInBounds 35 (.int .i64 (max 0 (min ((a : Int) + (k : Int)) ((n : Int) - 1)))) = cs3 at *
    clear hcs3
    go_upto_region 13 with fail
    go_region_law (first
      | (refine step_callf rfl 42 #[.int .i64 ((a : Int) + (k : Int)), .int .i64 (n : Int)] rfl (by kernel_rfl) (fun v w' => v = .int .i64 (max 0 (min ((a : Int) + (k : Int)) ((n : Int) - 1))) ∧ w3.drew = w') (HCl.out.mono fun e w' ⟨h1, h2⟩ => ⟨_, h1, rfl, h2⟩) ?_
         rintro v w4 ⟨rfl, rfl⟩))
    all_goals
      clear HCl hwr2 c35 f35 C1 zz
      go_wp2_with fail
      go_ret
      exact ⟨0, cs3, rfl, grows_trans HG3.out (ext_grows (Ext.drew _) _), fun _ => rfl, fun _ => ⟨Blk.ext HB3.out (Ext.drew _), H67.out, HON.out, fun h => hn0 (by have h1 := caseL_len (l := l) (a := a) (k := k) (by rw [HL.out.len]; exact hka); rw [h, HL.out.len] at h1; exact h1.symm), B2, q2, b2, H34'.out, Own.ext HT3.out (Ext.drew _)⟩⟩

/-- A verb that stands for itself. -/
theorem short_no {k1 k2 k3 k5 : Int} (w : World) : Calls Try.prog 28 #[.agg #[.int .i64 k1, .int .i64 k2, .int .i64 k3, .int .i64 126, .int .i64 k5]] w fun e w' => e = .returned (.tuple #[.agg #[.int .i64 k1, .int .i64 k2, .int .i64 k3, .int .i64 126, .int .i64 k5], .bool false]) ∧ Ext w w' := by
  go_enter Try.func28, Try.ntmps28
  go_wp2_with fail
  have hb : Blk ((w.alloc (.cells #[.int .i64 k1, .int .i64 k2, .int .i64 k3, .int .i64 126, .int .i64 k5] 28)).alloc (.cells #[.int .i64 k1, .int .i64 k2, .int .i64 k3, .int .i64 126, .int .i64 k5] 28)) (w.heap.size + 1) 28 #[.int .i64 k1, .int .i64 k2, .int .i64 k3, .int .i64 126, .int .i64 k5] := by
    have := Blk.new (w.alloc (.cells #[.int .i64 k1, .int .i64 k2, .int .i64 k3, .int .i64 126, .int .i64 k5] 28)) 28 #[.int .i64 k1, .int .i64 k2, .int .i64 k3, .int .i64 126, .int .i64 k5]
    rwa [World.size_alloc] at this
  refine bodyPost_ret (v := .tuple #[.agg #[.int .i64 k1, .int .i64 k2, .int .i64 k3, .int .i64 126, .int .i64 k5], .bool false]) ?_ rfl ⟨rfl, (Ext.alloc _ _).to_alloc _⟩
  exact results_row_tmp rfl _ _ (w.heap.size + 1) 28 _ _ _ _ rfl rfl hb Try.underlying28 rfl (by kernel_rfl)

set_option maxRecDepth 20000 in
set_option maxHeartbeats 4000000 in
theorem one_case {w : World} {b g n c a d : Nat} {cs rs : Array Value} {A B : Option Addr} {l : List Int} {rl : Nat → List Int} {k1 k2 k5 fk fa : Int} (hb : Blk w g 57 cs) (hd : DoerIs w g cs A n c (a : Int) rs rl k1 k2 0 126 k5 fk fa B d) (hl : Ints w A n c l) (hn : n ≤ 200) (ha : a ≤ n) (hk : 0 ≤ k1) (hk2 : k1 ≤ 999) (hbg : b ≤ w.heap.size) :
    Calls Try.prog 22 #[.pointer (some ⟨g, 0, none⟩)] w (DoneIs g w (n ≠ 0) (TextIs b (caseL l a (min (max 1 k1.toNat) (n - a))))) := by
  have HY : Hid (∀ wx, Ext w wx → wx.cell? ⟨g, 29, none⟩ = some (.int .i64 k1) ∧ wx.cell? ⟨g, 30, none⟩ = some (.int .i64 k2) ∧ wx.cell? ⟨g, 31, none⟩ = some (.int .i64 0) ∧ wx.cell? ⟨g, 32, none⟩ = some (.int .i64 126) ∧ wx.cell? ⟨g, 33, none⟩ = some (.int .i64 k5)) := Lib.hid fun wx he =>
    ⟨he.cell ((hb.cell 29).trans hd.c29), he.cell ((hb.cell 30).trans hd.c30), he.cell ((hb.cell 31).trans hd.c31), he.cell ((hb.cell 32).trans hd.c32), he.cell ((hb.cell 33).trans hd.c33)⟩
  have HP : Hid (∀ wx, Ext w wx → Calls Try.prog 30 #[.pointer (some ⟨g, 0, none⟩)] wx (DoneIs g wx (n ≠ 0) (TextIs b (caseL l a (min (max 1 k1.toNat) (n - a)))))) := Lib.hid fun wx he =>
    plain_case (hb.ext he) { hd with oregs := fun j hj => let ⟨v, h1, h2⟩ := hd.oregs j hj; ⟨v, h1, h2.ext he⟩ } (hl.ext he) hn ha hk hk2 (Nat.le_trans hbg he.hsize)
  have HSh := Lib.hid (short_no (k1 := k1) (k2 := k2) (k3 := 0) (k5 := k5) w)
  obtain ⟨y0, y1, y2, y3, y4⟩ := HY.out w (Ext.refl w)
  clear hb hd hl hn ha hk hk2 hbg
  go_enter Try.func22, Try.ntmps22
  go_wp2_with fail
  refine HSh.out.mono ?_
  rintro e w1 ⟨rfl, hx1⟩
  have hx2 := Lib.hid (hx1.trans (Ext.alloc w1 (.cells #[.int .i64 k1, .int .i64 k2, .int .i64 0, .int .i64 126, .int .i64 k5] 28)))
  clear y0 y1 y2 y3 y4 HSh hx1
  go_upto_region 3 with fail
  change Code.wp _ _ _ _ (w1.alloc (.cells #[.int .i64 k1, .int .i64 k2, .int .i64 0, .int .i64 126, .int .i64 k5] 28))
  generalize w1.alloc (.cells #[.int .i64 k1, .int .i64 k2, .int .i64 0, .int .i64 126, .int .i64 k5] 28) = w2 at *
  obtain ⟨y0, y1, y2, y3, y4⟩ := HY.out w2 hx2.out
  have HC := Lib.hid (HP.out w2 hx2.out)
  clear HP HY
  go_wp2_with fail
  refine HC.out.mono ?_
  rintro e w3 ⟨er, cs', rfl, hgr, hOk, hok⟩
  have HF : Hid (DoneIs g w (n ≠ 0) (TextIs b (caseL l a (min (max 1 k1.toNat) (n - a)))) (.returned (.int .i64 er)) w3) := Lib.hid ⟨er, cs', rfl, grows_trans (ext_grows hx2.out (some g)) hgr, hOk, hok⟩
  clear hgr hok hOk HC y0 y1 y2 y3 y4
  go_wp2_with fail
  go_ret
  exact HF.out
end Go.Proofs.Ytmhgndjmcignjaa

namespace Go.Proofs.Ytmhgndjmcignjaa
open Go.RowKit
set_option linter.unusedVariables false
set_option linter.unusedSimpArgs false

theorem noRegs_regs (w : World) : Regs w noRegs (fun _ => []) := (noRegs_own w 0).regs
theorem do_case {w : World} {A : Option Addr} {n c a : Nat} {k1 : Int} {l : List Int} (hl : Ints w A n c l) (hA : A = none → c = 0) (hn : n ≤ 200) (ha : (a : Int) ≤ max 0 ((n : Int) - 1)) (hk : 0 ≤ k1) (hk2 : k1 ≤ 999) :
    Calls Try.prog 8 #[.agg #[.slice A n c, .int .i64 (a : Int)], .agg noRegs, .agg #[.int .i64 0, .int .i64 0], .agg #[.int .i64 k1, .int .i64 0, .int .i64 0, .int .i64 126, .int .i64 0]] w
      (DidIs w (n ≠ 0) (TextIs (w.heap.size + 5) (caseL l a (min (max 1 k1.toNat) (n - a))))) := by
  refine do_walk hl hA (noRegs_regs w) hn (by omega) ha hk hk2 (.inl rfl) (.inl rfl) ?_ ?_
  · rintro w1 w2 cs ⟨hne, B, q, d, h1, h2⟩ hg
    refine ⟨hne, B, q, d, h1, Own.kept h2 hg ?_⟩
    cases hb : (Value.slice B q d).ownBlock with
    | none => exact .inl rfl
    | some g => exact .inr (fun e => by injection e with e; have := (Own.blk h2 g hb).1; omega)
  · intro wz g cs B d hx hg hb hd ho hB
    exact one_case hb hd (hl.ext hx) hn (by omega) hk hk2 (by have := hb.lt; omega)

set_option maxRecDepth 20000 in
set_option maxHeartbeats 4000000 in
/-- What is no line. -/
theorem check_bad {A : Option Addr} {n c : Nat} {a : Int} (w : World) (h : ¬ (n ≤ 200 ∧ 0 ≤ a ∧ a ≤ max 0 ((n : Int) - 1))) (hn : n ≤ maxLen) :
    Calls Try.prog 20 #[.agg #[.slice A n c, .int .i64 a]] w fun e w' => ∃ er, er ≠ 0 ∧ e = .returned (.int .i64 er) ∧ Ext w w' := by
  have hx := Lib.hid (Ext.alloc w (.cells #[.slice A n c, .int .i64 a] 24))
  unfold maxLen at hn
  have hwr : IntKind.i64.wrap ((n : Int) - 1) = (n : Int) - 1 := IntWalk.i64_in _ (by omega)
  go_enter Try.func20, Try.ntmps20
  go_wp2_with fail
  all_goals first
    | (go_ret; exact ⟨2, by decide, rfl, hx.out⟩)
    | (go_ret; exact ⟨1, by decide, rfl, hx.out⟩)
    | (exfalso; omega)
set_option maxRecDepth 20000 in
set_option maxHeartbeats 8000000 in
theorem do_bad {w : World} {A : Option Addr} {n c : Nat} {a fk fa k1 k2 k3 k4 k5 : Int} {rs : Array Value} {Ok : Prop} {Post : World → Array Value → Prop} (hnm : n ≤ maxLen) (h : ¬ (n ≤ 200 ∧ 0 ≤ a ∧ a ≤ max 0 ((n : Int) - 1)) ∨ ¬ (0 ≤ k1 ∧ k1 ≤ 999)) (hno : ¬ Ok) :
    Calls Try.prog 8 #[.agg #[.slice A n c, .int .i64 a], .agg rs, .agg #[.int .i64 fk, .int .i64 fa], .agg #[.int .i64 k1, .int .i64 k2, .int .i64 k3, .int .i64 k4, .int .i64 k5]] w (DidIs w Ok Post) := by
  have HC : Hid (∀ w, Calls Try.prog 20 #[.agg #[.slice A n c, .int .i64 a]] w fun e w' => ∃ er, (er = 0 → ¬ (0 ≤ k1 ∧ k1 ≤ 999)) ∧ e = .returned (.int .i64 er) ∧ Ext w w') := Lib.hid fun w => by
    by_cases hc : n ≤ 200 ∧ 0 ≤ a ∧ a ≤ max 0 ((n : Int) - 1)
    · exact (check_fine w hc.1 hc.2.1 hc.2.2).mono fun e w' ⟨h1, h2⟩ => ⟨0, fun _ => h.resolve_left (fun hh => hh hc), h1, h2⟩
    · exact (check_bad w hc hnm).mono fun e w' ⟨er, h1, h2, h3⟩ => ⟨er, fun hh => absurd hh h1, h2, h3⟩
  have HNo := Lib.hid hno
  obtain ⟨w0, hw0, hx0, hb0, hb1, hb2, hb3, hb4⟩ := do_start w A n c a fk fa k1 k2 k3 k4 k5 rs
  have HX := Lib.hid hx0
  have B0 := Lib.hid hb0
  have B3 := Lib.hid hb3
  have B4 := Lib.hid hb4
  have HW := Lib.hid hw0
  clear hx0 hb0 hb1 hb2 hb3 hb4 hw0 h hno hnm
  go_enter Try.func8, Try.ntmps8
  go_upto_region 1 with fail
  have hw := HW.out
  unfold resZ at hw
  change Code.wp _ _ _ _ (((((w.alloc (.cells #[.slice A n c, .int .i64 a] 24)).alloc (.cells rs 30)).alloc (.cells #[.int .i64 fk, .int .i64 fa] 26)).alloc (.cells #[.int .i64 k1, .int .i64 k2, .int .i64 k3, .int .i64 k4, .int .i64 k5] 28)).alloc (.cells resZ 33))
  unfold resZ
  rw [← hw]
  clear hw HW
  obtain ⟨x0, x1⟩ := cells2L B0.out
  go_wp2_with fail
  refine (HC.out _).mono ?_
  rintro e w1 ⟨er, her, rfl, he1⟩
  have C3 := Lib.hid (B3.out.ext he1)
  have C4 := Lib.hid (B4.out.ext he1)
  have CX := Lib.hid (HX.out.trans he1)
  have HER := Lib.hid her
  clear x0 x1 B0 B3 B4 HX he1 HC her
  by_cases h0 : er = 0
  · subst h0
    have hk := HER.out rfl
    obtain ⟨y0, y1, y2, y3, y4⟩ := cells5 C3.out
    have hor : k1 < 0 ∨ 999 < k1 := by omega
    clear HER hk
    go_wp2_with (refine wpList_store_row rfl 33 (.tmp 8) _ rfl (w.heap.size + 1 + 1 + 1 + 1) resZ rfl rfl 33 resZ C4.out (res_size rfl) rfl resZ_one ?_)
    all_goals first
      | (exfalso; omega)
      | (have hres := C4.out.setRow resZ
         refine bodyPost_ret (v := .tuple #[.agg resZ, .int .i64 1]) ?_ rfl ⟨Ext.setRow CX.out (by omega) _, .inl ⟨HNo.out, 1, by decide, rfl⟩⟩
         exact results_row_tmp rfl _ _ (w.heap.size + 1 + 1 + 1 + 1) 33 _ _ _ _ rfl rfl hres Try.underlying33 rfl (res_size rfl))
  · clear HER
    go_wp2_with (refine wpList_store_row rfl 33 (.tmp 8) _ rfl (w.heap.size + 1 + 1 + 1 + 1) resZ rfl rfl 33 resZ C4.out (res_size rfl) rfl resZ_one ?_)
    have hres := C4.out.setRow resZ
    refine bodyPost_ret (v := .tuple #[.agg resZ, .int .i64 er]) ?_ rfl ⟨Ext.setRow CX.out (by omega) _, .inl ⟨HNo.out, er, h0, rfl⟩⟩
    exact results_row_tmp rfl _ _ (w.heap.size + 1 + 1 + 1 + 1) 33 _ _ _ _ rfl rfl hres Try.underlying33 rfl (res_size rfl)
theorem noRegs_lit : noRegs = #[.slice none 0 0, .slice none 0 0, .slice none 0 0, .slice none 0 0, .slice none 0 0, .slice none 0 0, .slice none 0 0, .slice none 0 0, .slice none 0 0, .slice none 0 0, .slice none 0 0, .slice none 0 0, .slice none 0 0, .slice none 0 0, .slice none 0 0, .slice none 0 0, .slice none 0 0, .slice none 0 0, .slice none 0 0, .slice none 0 0, .slice none 0 0, .slice none 0 0, .slice none 0 0, .slice none 0 0, .slice none 0 0, .slice none 0 0, .slice none 0 0] := by kernel_rfl
theorem do_case_lit {w : World} {A : Option Addr} {n c a : Nat} {k1 : Int} {l : List Int} (hl : Ints w A n c l) (hA : A = none → c = 0) (hn : n ≤ 200) (ha : (a : Int) ≤ max 0 ((n : Int) - 1)) (hk : 0 ≤ k1) (hk2 : k1 ≤ 999) :
    Calls Try.prog 8 #[.agg #[.slice A n c, .int .i64 (a : Int)], .agg #[.slice none 0 0, .slice none 0 0, .slice none 0 0, .slice none 0 0, .slice none 0 0, .slice none 0 0, .slice none 0 0, .slice none 0 0, .slice none 0 0, .slice none 0 0, .slice none 0 0, .slice none 0 0, .slice none 0 0, .slice none 0 0, .slice none 0 0, .slice none 0 0, .slice none 0 0, .slice none 0 0, .slice none 0 0, .slice none 0 0, .slice none 0 0, .slice none 0 0, .slice none 0 0, .slice none 0 0, .slice none 0 0, .slice none 0 0, .slice none 0 0], .agg #[.int .i64 0, .int .i64 0], .agg #[.int .i64 k1, .int .i64 0, .int .i64 0, .int .i64 126, .int .i64 0]] w
      (DidIs w (n ≠ 0) (TextIs (w.heap.size + 5) (caseL l a (min (max 1 k1.toNat) (n - a))))) := by
  have h := do_case (a := a) hl hA hn ha hk hk2
  rw [noRegs_lit] at h
  exact h
/-- A result laid in a block of its own. -/
theorem laid_res (w : World) (vs : Array Value) : Ext w ((w.alloc (.cells resZ 33)).setRow w.heap.size vs) ∧ Blk ((w.alloc (.cells resZ 33)).setRow w.heap.size vs) w.heap.size 33 vs :=
  ⟨Ext.setRow (Ext.alloc w _) (Nat.le_refl _) _, Blk.setRow (Blk.new w 33 resZ) vs⟩
/-- As step_callf, where the operation bears a guard that lets it come. -/
theorem step_callw {P : Program} {ops : Array Oper} {o : Oper} {a : Act} {w : World} {K : Act → World → Prop} {Q : Exit → Act → World → Prop} {E : Prop} {ars : Array Operand} {tys : Array TypeId} (hw : Region.wanted o (yielded ops a.tmps) = true)
    (f : FuncId) (args : Array Value) (ho : o.op = .call { callee := .value (.func f), args := ars, argTypes := tys }) (hrun : (execOp a.eval o).run P w = .ok (.enter f args) w) (R : Value → World → Prop)
    (hc : Calls P f args w fun e w' => ∃ v, e = .returned v ∧ R v w') (h : ∀ v w', R v w' → K (a.put o.dst v) w') : if Region.wanted o (yielded ops a.tmps) = true then Oper.wp P o a w K Q else E := by
  rw [if_pos hw]
  unfold Oper.wp
  rw [hrun, Oper.upon_enter]
  refine hc.mono fun e w' hh => ?_
  obtain ⟨v, rfl, hR⟩ := hh
  exact h v w' hR
/-! What a letter's turn is. -/
theorem turn_turn (x : Int) : turnL (turnL x) = x := by
  unfold turnL
  split
  · rw [if_neg (by omega), if_pos (by omega)]; omega
  · split
    · rw [if_pos (by omega)]; omega
    · rfl
theorem caseL_get {l : List Int} {a k i : Nat} (h : a + k ≤ l.length) (hi : i < l.length) : gI (caseL l a k) i = if a ≤ i ∧ i < a + k then turnL (gI l i) else gI l i := by
  unfold caseL gI
  have h1 : (l.take a).length = a := by simp; omega
  have h2 : (((l.drop a).take k).map turnL).length = k := by simp; omega
  by_cases c1 : i < a
  · rw [if_neg (by omega), List.append_assoc, List.getElem?_append_left (by rw [h1]; exact c1), List.getElem?_take, if_pos c1]
  · by_cases c2 : i < a + k
    · rw [if_pos ⟨by omega, c2⟩, List.getElem?_append_left (by rw [List.length_append, h1, h2]; exact c2), List.getElem?_append_right (by rw [h1]; omega), h1, List.getElem?_map, List.getElem?_take, if_pos (by omega), List.getElem?_drop, show a + (i - a) = i by omega, List.getElem?_eq_getElem hi]
      rfl
    · rw [if_neg (by omega), List.getElem?_append_right (by rw [List.length_append, h1, h2]; omega), List.length_append, h1, h2, List.getElem?_drop, show a + k + (i - (a + k)) = i by omega]
theorem caseL_twice {l : List Int} {a k : Nat} (h : a + k ≤ l.length) : caseL (caseL l a k) a k = l := by
  have h1 : (l.take a).length = a := by simp; omega
  have h2 : (((l.drop a).take k).map turnL).length = k := by simp; omega
  have e1 : (caseL l a k).take a = l.take a := by
    unfold caseL
    rw [List.append_assoc, List.take_append_of_le_length (by omega), List.take_of_length_le (by omega)]
  have e2 : (caseL l a k).drop a = ((l.drop a).take k).map turnL ++ l.drop (a + k) := by
    unfold caseL
    rw [List.append_assoc, List.drop_append_of_le_length (by omega), List.drop_of_length_le (by omega)]
    rfl
  have e3 : (caseL l a k).drop (a + k) = l.drop (a + k) := by
    rw [← List.drop_drop, e2, List.drop_append_of_le_length (by omega), List.drop_of_length_le (by omega)]
    rfl
  rw [caseL, e1, e2, e3, List.take_append_of_le_length (by omega), List.take_of_length_le (l := ((l.drop a).take k).map turnL) (by omega), List.map_map]
  have : (turnL ∘ turnL) = id := by funext x; exact turn_turn x
  rw [this, List.map_id]
  have h3 : l.drop (a + k) = (l.drop a).drop k := by rw [List.drop_drop]
  rw [h3, List.append_assoc, List.take_append_drop, List.take_append_drop]
theorem or_low : ∀ n : Fin 26, bits .or .i64 (97 + (n.val : Int)) 32 = 97 + (n.val : Int) := by decide +kernel
theorem or_up : ∀ n : Fin 26, bits .or .i64 (65 + (n.val : Int)) 32 = 97 + (n.val : Int) := by decide +kernel
theorem or_lowI {x : Int} (h1 : 97 ≤ x) (h2 : x ≤ 122) : bits .or .i64 x 32 = x := by
  have h := or_low ⟨(x - 97).toNat, by omega⟩
  rw [show (97 : Int) + (((⟨(x - 97).toNat, by omega⟩ : Fin 26).val : Nat) : Int) = x by simp; omega] at h
  exact h
theorem or_upI {x : Int} (h1 : 65 ≤ x) (h2 : x ≤ 90) : bits .or .i64 x 32 = x + 32 := by
  have h := or_up ⟨(x - 65).toNat, by omega⟩
  rw [show (65 : Int) + (((⟨(x - 65).toNat, by omega⟩ : Fin 26).val : Nat) : Int) = x by simp; omega] at h
  rw [h]
  simp
  omega
theorem turn_or {x : Int} (h : turnL x ≠ x) : ∃ z, 97 ≤ z ∧ z ≤ 122 ∧ bits .or .i64 x 32 = z ∧ bits .or .i64 (turnL x) 32 = z := by
  unfold turnL at h ⊢
  split
  · rename_i hc
    exact ⟨x, hc.1, hc.2, or_lowI hc.1 hc.2, by rw [or_upI (by omega) (by omega)]; omega⟩
  · rename_i hc
    rw [if_neg hc] at h
    split
    · rename_i hd
      exact ⟨x + 32, by omega, by omega, or_upI hd.1 hd.2, or_lowI (by omega) (by omega)⟩
    · rename_i hd
      rw [if_neg hd] at h
      exact absurd rfl h
end Go.Proofs.Ytmhgndjmcignjaa
