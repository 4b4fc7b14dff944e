/-
  The walks of reg.number, reg.copied.
-/
import Derived.Test.YtmhgndjmcignjaaZRegM
import Derived.Deep.WholeRow
import Derived.Deep.DeepCutAuto
import Derived.Deep.CutRange

namespace Go.Proofs.Ytmhgndjmcignjaa
open Go.RowKit
set_option linter.unusedVariables false
set_option linter.unusedSimpArgs false

/-- The number of a register, and whether what comes is put behind. -/
def regNo (k : Int) : Option (Nat × Bool) :=
  if k = 0 then some (0, false) else if 97 ≤ k ∧ k ≤ 122 then some ((k - 96).toNat, false) else if 65 ≤ k ∧ k ≤ 90 then some ((k - 64).toNat, true) else none
theorem regNo_lt {k : Int} {i : Nat} {m : Bool} (h : regNo k = some (i, m)) : i < 27 := by
  unfold regNo at h
  split at h
  · injection h with h; injection h with h _; omega
  · split at h
    · injection h with h; injection h with h _; omega
    · split at h
      · injection h with h; injection h with h _; omega
      · cases h
/-- A register's name in small letters. -/
theorem regNo_none {k : Int} (h : regNo k = none) : k ≠ 0 ∧ ¬ (97 ≤ k ∧ k ≤ 122) ∧ ¬ (65 ≤ k ∧ k ≤ 90) := by
  unfold regNo at h
  refine ⟨fun h0 => ?_, fun h1 => ?_, fun h2 => ?_⟩
  · rw [if_pos h0] at h; cases h
  · rw [if_neg (by omega), if_pos h1] at h; cases h
  · rw [if_neg (by omega), if_neg (by omega), if_pos h2] at h; cases h

theorem ret_num3 {a b : Int} {x y : Value} (h : a = b) : Ending.returned (.tuple #[.int .i64 a, x, y]) = .returned (.tuple #[.int .i64 b, x, y]) := by rw [h]
set_option maxRecDepth 20000 in
set_option maxHeartbeats 4000000 in
theorem number_ok {k : Int} {i : Nat} {m : Bool} (w : World) (h : regNo k = some (i, m)) :
    Calls Try.prog 67 #[.int .i64 k] w fun e w' => e = .returned (.tuple #[.int .i64 i, .bool m, .bool true]) ∧ w = w' := by
  unfold regNo at h
  by_cases h0 : k = 0
  · subst h0
    rw [if_pos rfl] at h
    injection h with h
    injection h with h1 h2
    subst h1; subst h2
    go_enter Try.func67, Try.ntmps67
    go_wp2_with fail
    go_ret3
    exact ⟨rfl, rfl⟩
  rw [if_neg h0] at h
  have e0 : (k == 0) = false := by simpa using h0
  by_cases h1 : 97 ≤ k ∧ k ≤ 122
  · rw [if_pos h1] at h
    injection h with h
    injection h with h2 h3
    obtain ⟨h4, h5⟩ := h1
    obtain rfl : k = (i : Int) + 96 := by omega
    subst h3
    have hi : 1 ≤ i ∧ i ≤ 26 := by omega
    clear h2 h0
    obtain ⟨hi1, hi2⟩ := hi
    go_enter Try.func67, Try.ntmps67
    go_wp2_with fail
    go_ret3
    exact ⟨ret_num3 (by omega), rfl⟩
  rw [if_neg h1] at h
  by_cases h2 : 65 ≤ k ∧ k ≤ 90
  · rw [if_pos h2] at h
    injection h with h
    injection h with h3 h4
    obtain ⟨h5, h6⟩ := h2
    obtain rfl : k = (i : Int) + 64 := by omega
    subst h4
    have hi : 1 ≤ i ∧ i ≤ 26 := by omega
    have h7 : decide (97 ≤ (i : Int) + 64) = false := by simp; omega
    clear h3 h0 h1
    obtain ⟨hi1, hi2⟩ := hi
    go_enter Try.func67, Try.ntmps67
    go_wp2_with fail
    go_ret3
    exact ⟨ret_num3 (by omega), rfl⟩
  · rw [if_neg h2] at h; cases h
set_option maxRecDepth 20000 in
set_option maxHeartbeats 4000000 in
theorem number_no {k : Int} (w : World) (h : regNo k = none) :
    Calls Try.prog 67 #[.int .i64 k] w fun e w' => e = .returned (.tuple #[.int .i64 0, .bool false, .bool false]) ∧ w = w' := by
  obtain ⟨h0, h1, h2⟩ := regNo_none h
  have e0 : (k == 0) = false := by simpa using h0
  have h3 : k < 65 ∨ (90 < k ∧ k < 97) ∨ 122 < k := by omega
  clear h h0 h1 h2
  rcases h3 with h3 | ⟨h3, h4⟩ | h3
  all_goals
    go_enter Try.func67, Try.ntmps67
    go_wp2_with fail
    go_ret3
    exact ⟨rfl, rfl⟩

set_option maxRecDepth 20000 in
set_option maxHeartbeats 4000000 in
theorem copied_ok {cs : Array Value} {rs : Nat → List Int} {w : World} (h : Regs w cs rs) :
    Calls Try.prog 69 #[.agg cs] w fun e w' => ∃ ds, e = .returned (.agg ds) ∧ RegsO w' w.heap.size ds rs ∧ Apart ds 27 ∧ Ext w w' := by
  have H := Lib.hid h
  have hcs := h.1
  clear h
  obtain ⟨z, hz⟩ : ∃ z : Array Value, noRegs = z := ⟨_, rfl⟩
  have HZ : Hid (noRegs = z) := Lib.hid hz
  have hb1 : Hid (Blk ((w.alloc (.cells cs 30)).alloc (.cells noRegs 30)) w.heap.size 30 cs) := Lib.hid ((Blk.new w _ cs).ext (Ext.alloc _ _))
  have hb2 : Hid (Blk ((w.alloc (.cells cs 30)).alloc (.cells noRegs 30)) (w.heap.size + 1) 30 noRegs) := Lib.hid (by
    have := Blk.new (w.alloc (.cells cs 30)) 30 noRegs
    rwa [World.size_alloc] at this)
  have hE : Hid (Ext w ((w.alloc (.cells cs 30)).alloc (.cells noRegs 30))) := Lib.hid ((Ext.alloc _ _).to_alloc _)
  clear hz
  go_enter Try.func69, Try.ntmps69
  go_wp2_with fail
  go_loopw [4] (fun s4 wx => ∃ (i : Nat) (a : Array Value), i ≤ 27 ∧ s4 = .int .i64 i ∧ Hid (a.size = 27 ∧ (∀ j, j < i → ∃ v, a[j]? = some v ∧ RegOw wx (w.heap.size + 2) v (rs j)) ∧ (∀ j, i ≤ j → a[j]? = cs[j]?)) ∧ Hid (Blk wx w.heap.size 30 a) ∧ Hid (Blk wx (w.heap.size + 1) 30 noRegs) ∧ Hid (Ext w wx) ∧ Hid (Apart a i)) (fun s4 _ => 27 - (intOf s4).toNat)
  case atStart => exact ⟨0, cs, by omega, rfl, Lib.hid ⟨hcs, fun j hj => by omega, fun _ _ => rfl⟩, hb1, hb2, hE, Lib.hid (fun j k g hj => by omega)⟩
  case round =>
    clear hb1 hb2 hE
    obtain ⟨i, a, hi, rfl, Ha, Hb1, Hb2, He, Hap⟩ := hrel
    have hle := Hb2.out.lt
    by_cases hlt : i < 27
    · obtain ⟨v, hv, A, n, c, rfl, hI, hA, hn⟩ := H.out.2 i hlt
      have hc : wr.cell? ⟨w.heap.size, i, none⟩ = some (.slice A n c) := by rw [Hb1.out.cell i, Ha.out.2.2 i (Nat.le_refl _), hv]
      have HC := Lib.hid (clone_ok (hI.ext He.out) hA hn)
      clear hv hI
      go_wp2_with fail
      refine HC.out.mono ?_
      rintro e w2 ⟨B, d, rfl, hO, hB, he2⟩
      have Hb1' := Lib.hid (Blk.ext Hb1.out he2)
      have Hb2' := Lib.hid (Blk.ext Hb2.out he2)
      have HO : Hid (RegOw w2 (w.heap.size + 2) (.slice B n d) (rs i)) := Lib.hid ⟨B, n, d, rfl, Own.lower hO (by omega), hB, hn⟩
      have He2 := Lib.hid (He.out.trans he2)
      have Ha2 : Hid (a.size = 27 ∧ (∀ j, j < i → ∃ v, a[j]? = some v ∧ RegOw w2 (w.heap.size + 2) v (rs j)) ∧ (∀ j, i ≤ j → a[j]? = cs[j]?)) := Lib.hid ⟨Ha.out.1, fun j hj => by obtain ⟨v, h1, h2⟩ := Ha.out.2.1 j hj; exact ⟨v, h1, h2.ext he2⟩, Ha.out.2.2⟩
      have Hap2 : Hid (Apart (a.setIfInBounds i (.slice B n d)) (i + 1)) := Lib.hid (Hap.out.snoc (m := wr.heap.size) (by rw [Ha.out.1]; exact hlt) (fun j g hj hg => by
        obtain ⟨v, h1, h2⟩ := Ha.out.2.1 j hj
        exact (h2.blk g (by unfold ownB at hg; rw [h1] at hg; exact hg)).2) (fun g hg => (Own.blk hO g hg).1))
      have hfr := Hb1'.out.frozen i
      have hc2 : w2.cell? ⟨w.heap.size, i, none⟩ = some (.slice A n c) := he2.cell hc
      clear HC hO hB he2 hc Ha Hb1 Hb2 He hA hn Hap
      go_wp2_with fail
      go_roundw
      case rel =>
        refine ⟨i + 1, a.setIfInBounds i (.slice B n d), by omega, by go_num, Lib.hid ⟨by simpa using Ha2.out.1, fun j hj => ?_, fun j hj => ?_⟩, Lib.hid (Hb1'.out.set_ i _), ?_, Lib.hid (He2.out.setCell (Nat.le_refl _) _), Hap2⟩
        · by_cases hji : j = i
          · subst hji
            exact ⟨_, by rw [Array.getElem?_setIfInBounds_self, if_pos (by rw [Ha2.out.1]; exact hlt)], HO.out.setCell (show w.heap.size < w.heap.size + 2 by omega) _⟩
          · obtain ⟨v, h1, h2⟩ := Ha2.out.2.1 j (by omega)
            exact ⟨v, by rw [Array.getElem?_setIfInBounds_ne (by omega)]; exact h1, h2.setCell (show w.heap.size < w.heap.size + 2 by omega) _⟩
        · rw [Array.getElem?_setIfInBounds_ne (by omega)]
          exact Ha2.out.2.2 j (by omega)
        · exact Lib.hid (set_other Hb2'.out (by omega) i _)
      case measure => simp [intOf]; omega
    · obtain rfl : i = 27 := by omega
      have hs := Ha.out.1
      have hone : a.all (·.oneCell') = true := Regs.one (w := wr) (rs := rs) ⟨hs, fun j hj => by obtain ⟨v, h1, h2⟩ := Ha.out.2.1 j hj; exact ⟨v, h1, h2.sl⟩⟩
      have hns : noRegs.size = a.size := by rw [hs]; rfl
      go_wp2_with (first | (refine wpList_load_row rfl 30 (.tmp 1) rfl w.heap.size rfl 30 a (0, 0) _ Hb1.out Try.underlying30 rfl (regs_size hs) ?_) | (refine wpList_store_row rfl 30 (.tmp 2) (.tmp 14) rfl (w.heap.size + 1) a rfl rfl 30 noRegs Hb2.out (regs_size hs) hns hone ?_))
      have HR : Hid (RegsO (wr.setRow (w.heap.size + 1) a) w.heap.size a rs) := Lib.hid ⟨hs, fun j hj => by obtain ⟨v, h1, h2⟩ := Ha.out.2.1 j hj; exact ⟨v, h1, (h2.setRow (show w.heap.size + 1 < w.heap.size + 2 by omega) a).lower (by omega)⟩⟩
      have HX := Lib.hid (He.out.setRow (show w.heap.size ≤ w.heap.size + 1 by omega) a)
      have hres := Hb2.out.setRow a
      refine bodyPost_ret (v := .agg a) ?_ rfl ⟨a, rfl, HR.out, Hap.out, HX.out⟩
      exact results_cell_row rfl _ _ (w.heap.size + 1) 30 _ _ _ rfl hres Try.underlying30 rfl (regs_size hs)
end Go.Proofs.Ytmhgndjmcignjaa

namespace Go.Proofs.Ytmhgndjmcignjaa
open Go.RowKit
set_option linter.unusedVariables false
set_option linter.unusedSimpArgs false

/-- A struct or array in a cell, and a value beside it. -/
theorem results_row_tmp {P : Program} {fn : Func} {p q : Tmp} {ty : TypeId} (h : fn.results = #[.cell p ty, .tmp q]) (tmps : Array Value) (w : World) (g : Nat) (t : TypeId) (cs : Array Value) (fr : Nat × Nat) (d : TypeDesc) (v : Value)
    (hp : tmps.getD p undef = .pointer (some ⟨g, 0, none⟩)) (hq : tmps.getD q undef = v) (hg : w.heap[g]? = some (.cells cs t fr))
    (hu : P.underlying ty = some d) (hd : (match d with | .struct _ | .array _ _ => true | _ => false) = true) (hi : (P.info? ty).map (·.size) = some cs.size) :
    (results fn tmps).run P w = .ok (.tuple #[.agg cs, v]) w := by
  have hp' : tmps[p]?.getD undef = .pointer (some ⟨g, 0, none⟩) := by simpa using hp
  have hq' : tmps[q]?.getD undef = v := by simpa using hq
  simp [results, h, hp', hq', asAddr, run_loadVar_row w g t ty cs fr d hg hu hd hi]

theorem noRegs_size : noRegs.size = 27 := rfl
theorem noRegs_one : noRegs.all (·.oneCell') = true := by decide +kernel

section
variable {w : World} {cs : Array Value} {rs : Nat → List Int} {k : Int} {A : Option Addr} {n c : Nat} {text : List Int}

theorem two_blocks (w : World) (cs : Array Value) (t : TypeId) : Blk ((w.alloc (.cells cs t)).alloc (.cells noRegs t)) w.heap.size t cs ∧ Blk ((w.alloc (.cells cs t)).alloc (.cells noRegs t)) (w.heap.size + 1) t noRegs ∧ Ext w ((w.alloc (.cells cs t)).alloc (.cells noRegs t)) :=
  ⟨(Blk.new w _ cs).ext (Ext.alloc _ _), by
    have := Blk.new (w.alloc (.cells cs t)) t noRegs
    rwa [World.size_alloc] at this, (Ext.alloc _ _).to_alloc _⟩

set_option maxRecDepth 20000 in
set_option maxHeartbeats 4000000 in
theorem put_key (h : regNo k = none) : Calls Try.prog 56 #[.agg cs, .int .i64 k, .slice A n c] w fun e w' => e = .returned (.tuple #[.agg noRegs, .int .i64 9]) ∧ Ext w w' := by
  have HN := fun w => Lib.hid (number_no w h)
  clear h
  obtain ⟨H1, H2, H3⟩ := two_blocks w cs 30
  have h2 := Lib.hid H2
  have h3 := Lib.hid H3
  clear H1 H2 H3
  go_enter Try.func56, Try.ntmps56
  go_wp2_with fail
  refine ((HN _).out).mono ?_
  rintro e w1 ⟨rfl, rfl⟩
  clear HN
  go_wp2_with (refine wpList_store_row rfl 30 (.tmp 6) (.tmp 20) rfl (w.heap.size + 1) noRegs rfl rfl 30 noRegs h2.out (regs_size noRegs_size) rfl noRegs_one ?_)
  have hres := h2.out.setRow noRegs
  refine bodyPost_ret (v := .tuple #[.agg noRegs, .int .i64 9]) ?_ rfl ⟨rfl, h3.out.setRow (Nat.le_succ _) _⟩
  exact results_row_tmp rfl _ _ (w.heap.size + 1) 30 _ _ _ _ rfl rfl hres Try.underlying30 rfl (regs_size noRegs_size)

/-- Too much for a register. -/
def putBig (rs : Nat → List Int) (i : Nat) (m : Bool) (text : List Int) : Prop := 200 < text.length ∨ (m = true ∧ 200 < (rs i).length + text.length)
set_option maxRecDepth 20000 in
set_option maxHeartbeats 4000000 in
theorem put_large {i : Nat} {m : Bool} (hr : Regs w cs rs) (ht : Ints w A n c text) (h : regNo k = some (i, m)) (hb : putBig rs i m text) :
    Calls Try.prog 56 #[.agg cs, .int .i64 k, .slice A n c] w fun e w' => e = .returned (.tuple #[.agg noRegs, .int .i64 2]) ∧ Ext w w' := by
  have HN := fun w => Lib.hid (number_ok w h)
  have hi := regNo_lt h
  obtain ⟨v, hv, B, q, d, rfl, hI, hB, hq⟩ := hr.2 i hi
  have hnl := ht.len
  have hnc := ht.ncap
  have hnm := ht.nmax
  have hql := hI.len
  unfold putBig at hb
  rw [hnl, hql] at hb
  obtain ⟨H1, H2, H3⟩ := two_blocks w cs 30
  have h2 := Lib.hid H2
  have h3 := Lib.hid H3
  have hnm' : n ≤ 9223372036854775807 := by unfold maxLen at hnm; omega
  have hqm : q ≤ 9223372036854775807 := by omega
  clear h H1 H2 H3 hr ht hnl hql hI hnm hnc hB hq
  by_cases hb1 : 200 < n
  · clear hb
    go_enter Try.func56, Try.ntmps56
    go_wp2_with fail
    refine ((HN _).out).mono ?_
    rintro e w1 ⟨rfl, rfl⟩
    clear HN
    go_wp2_with (refine wpList_store_row rfl 30 (.tmp 6) (.tmp 37) rfl (w.heap.size + 1) noRegs rfl rfl 30 noRegs h2.out (regs_size noRegs_size) rfl noRegs_one ?_)
    have hres := h2.out.setRow noRegs
    refine bodyPost_ret (v := .tuple #[.agg noRegs, .int .i64 2]) ?_ rfl ⟨rfl, h3.out.setRow (Nat.le_succ _) _⟩
    exact results_row_tmp rfl _ _ (w.heap.size + 1) 30 _ _ _ _ rfl rfl hres Try.underlying30 rfl (regs_size noRegs_size)
  · obtain ⟨rfl, hb2⟩ : m = true ∧ 200 < q + n := by rcases hb with hb | hb; exact absurd hb hb1; exact hb
    have hx : (200 : Int) - n < q := by omega
    have hn2 : n ≤ 200 := by omega
    clear hb hb1 hb2
    go_enter Try.func56, Try.ntmps56
    go_wp2_with fail
    refine ((HN _).out).mono ?_
    rintro e w1 ⟨rfl, rfl⟩
    clear HN
    go_wp2_with (refine wpList_store_row rfl 30 (.tmp 6) (.tmp 37) rfl (w.heap.size + 1) noRegs rfl rfl 30 noRegs h2.out (regs_size noRegs_size) rfl noRegs_one ?_)
    have hres := h2.out.setRow noRegs
    refine bodyPost_ret (v := .tuple #[.agg noRegs, .int .i64 2]) ?_ rfl ⟨rfl, h3.out.setRow (Nat.le_succ _) _⟩
    exact results_row_tmp rfl _ _ (w.heap.size + 1) 30 _ _ _ _ rfl rfl hres Try.underlying30 rfl (regs_size noRegs_size)
end
end Go.Proofs.Ytmhgndjmcignjaa

namespace Go.Proofs.Ytmhgndjmcignjaa
open Go.RowKit
set_option linter.unusedVariables false
set_option linter.unusedSimpArgs false

theorem Own.setCell_ne {w : World} {base e z n c : Nat} {A : Option Addr} {xs : List Value} (h : Own w base e z A n c xs) {p : Addr} (hp : (Value.slice A n c).ownBlock ≠ some p.block) (u : Value) : Own (w.setCell p u) base e z A n c xs := by
  obtain ⟨h1, h2⟩ := h
  refine ⟨h1, ?_⟩
  rcases h2 with h2 | ⟨g', cap, cur, hv, hb, hg', r⟩
  · exact .inl h2
  · refine .inr ⟨g', cap, cur, hv, hb, ?_, r⟩
    rw [hv] at hp
    have hne : p.block ≠ g' := fun e => hp (by rw [e]; rfl)
    unfold World.setCell
    rw [Array.getElem?_modify, if_neg hne]
    exact hg'
theorem RegOw.setCell_ne {w : World} {b : Nat} {v : Value} {l : List Int} (h : RegOw w b v l) {p : Addr} (hp : v.ownBlock ≠ some p.block) (u : Value) : RegOw (w.setCell p u) b v l := by
  obtain ⟨A, n, c, rfl, h1, h2, h3⟩ := h
  exact ⟨A, n, c, rfl, Own.setCell_ne h1 hp u, h2, h3⟩
theorem RegOw.kept {w w' : World} {b : Nat} {v : Value} {l : List Int} (h : RegOw w b v l) {row : Option Nat} (hg : w.grownBy w' row) (hne : ∀ g, v.ownBlock = some g → row ≠ some g) : RegOw w' b v l := by
  obtain ⟨A, n, c, rfl, h1, h2, h3⟩ := h
  refine ⟨A, n, c, rfl, Own.kept h1 hg ?_, h2, h3⟩
  cases ho : (Value.slice A n c).ownBlock with
  | none => exact .inl rfl
  | some g => exact .inr (fun e => hne g ho e.symm)

/-- Registers of the call's own, in a block of its own. -/
def InvR (w : World) (b g : Nat) (ds : Array Value) (rs : Nat → List Int) : Prop := RegsO w b ds rs ∧ Blk w g 30 ds ∧ ∀ j k, ownB ds j = some k → k ≠ g
def upd (rs : Nat → List Int) (i : Nat) (l : List Int) : Nat → List Int := fun j => if j = i then l else rs j
section
variable {w w' : World} {b g : Nat} {ds : Array Value} {rs : Nat → List Int}
theorem InvR.ext (h : InvR w b g ds rs) (he : Ext w w') : InvR w' b g ds rs := ⟨h.1.ext he, Blk.ext h.2.1 he, h.2.2⟩
theorem ownB_of {ds : Array Value} {j : Nat} {v : Value} (h : ds[j]? = some v) : ownB ds j = v.ownBlock := by unfold ownB; rw [h]; rfl
theorem InvR.store (h : InvR w b g ds rs) {i : Nat} {v : Value} {l : List Int} (hv : RegOw w b v l) (hne : v.ownBlock ≠ some g) (hi : i < 27) : InvR (w.setCell ⟨g, i, none⟩ v) b g (ds.setIfInBounds i v) (upd rs i l) := by
  refine ⟨⟨by simpa using h.1.1, fun j hj => ?_⟩, h.2.1.set_ i v, fun j k hk => ?_⟩
  · unfold upd
    by_cases hji : j = i
    · subst hji
      exact ⟨v, by rw [Array.getElem?_setIfInBounds_self, if_pos (by rw [h.1.1]; exact hi)], by rw [if_pos rfl]; exact hv.setCell_ne hne _⟩
    · obtain ⟨u, h1, h2⟩ := h.1.2 j hj
      exact ⟨u, by rw [Array.getElem?_setIfInBounds_ne (fun e => hji e.symm)]; exact h1, by rw [if_neg hji]; exact h2.setCell_ne (fun e => h.2.2 j g (by rw [ownB_of h1]; exact e) rfl) _⟩
  · by_cases hji : i = j
    · subst hji
      rw [ownB_set_self (by rw [h.1.1]; exact hi)] at hk
      exact fun e => hne (by rw [hk, e])
    · rw [ownB_set_ne hji] at hk
      exact h.2.2 j k hk
/-- The i-th row has been appended to; the new row is stored. -/
theorem InvR.put (h : InvR w b g ds rs) (ha : Apart ds 27) {i : Nat} {v : Value} {l : List Int} (hg : w.grownBy w' (ownB ds i)) (hv : RegOw w' b v l) (hne : v.ownBlock ≠ some g) (hi : i < 27) : InvR (w'.setCell ⟨g, i, none⟩ v) b g (ds.setIfInBounds i v) (upd rs i l) := by
  have hB : Blk w' g 30 ds := h.2.1.grown hg (fun e => h.2.2 i g e.symm rfl)
  refine ⟨⟨by simpa using h.1.1, fun j hj => ?_⟩, hB.set_ i v, fun j k hk => ?_⟩
  · unfold upd
    by_cases hji : j = i
    · subst hji
      exact ⟨v, by rw [Array.getElem?_setIfInBounds_self, if_pos (by rw [h.1.1]; exact hi)], by rw [if_pos rfl]; exact hv.setCell_ne hne _⟩
    · obtain ⟨u, h1, h2⟩ := h.1.2 j hj
      have hk := h2.kept hg (fun k hk hi' => ha j i k hj hi hji (by rw [ownB_of h1]; exact hk) hi')
      exact ⟨u, by rw [Array.getElem?_setIfInBounds_ne (fun e => hji e.symm)]; exact h1, by rw [if_neg hji]; exact hk.setCell_ne (fun e => h.2.2 j g (by rw [ownB_of h1]; exact e) rfl) _⟩
  · by_cases hji : i = j
    · subst hji
      rw [ownB_set_self (by rw [h.1.1]; exact hi)] at hk
      exact fun e => hne (by rw [hk, e])
    · rw [ownB_set_ne hji] at hk
      exact h.2.2 j k hk
theorem InvR.blk (h : InvR w b g ds rs) {j k : Nat} (hj : j < 27) (hk : ownB ds j = some k) : b ≤ k ∧ k < w.heap.size := by
  obtain ⟨u, h1, h2⟩ := h.1.2 j hj
  rw [ownB_of h1] at hk
  exact h2.blk k hk
end

theorem Own.nocap {w : World} {base e z n c : Nat} {A : Option Addr} {xs : List Value} (h : Own w base e z A n c xs) : A = none → c = 0 := by
  rintro rfl
  rcases h.2 with ⟨hv, _⟩ | ⟨g', cap, cur, hv, _⟩
  · injection hv
  · injection hv with h _ _; cases h
/-- What Put makes of registers. -/
def putF (rs : Nat → List Int) (i : Nat) (m : Bool) (text : List Int) : Nat → List Int :=
  upd (upd rs i (if m = true then rs i ++ text else text)) 0 (if m = true then rs i ++ text else text)
/-- Put's answer: all in memory of the call's own; the register without a name in later memory than the others. -/
def PutO (w' : World) (b : Nat) (ds : Array Value) (rs : Nat → List Int) : Prop :=
  RegsO w' b ds rs ∧ ∃ g0, (∀ j k, 1 ≤ j → j < 27 → ownB ds j = some k → k < g0) ∧ ∀ k, ownB ds 0 = some k → g0 ≤ k

set_option maxRecDepth 20000 in
set_option maxHeartbeats 4000000 in
theorem put_ok {w : World} {cs : Array Value} {rs : Nat → List Int} {k : Int} {A : Option Addr} {n c : Nat} {text : List Int} {i : Nat} {m : Bool}
    (hr : Regs w cs rs) (ht : Ints w A n c text) (hA : A = none → c = 0) (h : regNo k = some (i, m)) (hb : ¬ putBig rs i m text) :
    Calls Try.prog 56 #[.agg cs, .int .i64 k, .slice A n c] w fun e w' => ∃ ds, e = .returned (.tuple #[.agg ds, .int .i64 0]) ∧ PutO w' w.heap.size ds (putF rs i m text) ∧ Ext w w' := by
  obtain ⟨i0, hi0, hz0, hz1, hz2⟩ := info_parts info_int
  have HN := fun w => Lib.hid (number_ok w h)
  have hi := regNo_lt h
  obtain ⟨v, hv, B, q, d, rfl, hI, hB, hq⟩ := hr.2 i hi
  have hnl := ht.len
  have hql := hI.len
  unfold putBig at hb
  rw [hnl, hql] at hb
  obtain ⟨H1, H2, H3⟩ := two_blocks w cs 30
  have h1 := Lib.hid H1
  have h2 := Lib.hid H2
  have h3 := Lib.hid H3
  have hn2 : n ≤ 200 := by omega
  have hx : m = true → q + n ≤ 200 := fun e => by
    rcases Nat.lt_or_ge 200 (q + n) with h | h
    · exact absurd (.inr ⟨e, h⟩) hb
    · exact h
  have hqm : q ≤ 9223372036854775807 := by omega
  have HC := Lib.hid (copied_ok (hr.ext H3))
  have HT := Lib.hid (ht.ext H3)
  have HS := Lib.hid hr.1
  have HL := Lib.hid hql
  clear h H1 H2 H3 hr ht hnl hql hI hb hB hq
  cases m with
  | true =>
    have hx2 : q + n ≤ 200 := hx rfl
    have hx3 : (q : Int) ≤ 200 - n := by omega
    clear hx
    go_enter Try.func56, Try.ntmps56
    go_wp2_with fail
    refine ((HN _).out).mono ?_
    rintro e w1 ⟨rfl, rfl⟩
    clear HN
    go_wp2_with (refine wpList_load_row rfl 30 (.tmp 3) rfl w.heap.size rfl 30 cs (0, 0) _ h1.out Try.underlying30 rfl (regs_size HS.out) ?_)
    refine HC.out.mono ?_
    rintro e w1 ⟨ds, rfl, hO, hap, he1⟩
    have he2 := h3.out.trans he1
    have hbz : ((w.alloc (.cells cs 30)).alloc (.cells noRegs 30)).heap.size = w.heap.size + 2 := by simp
    rw [hbz] at hO
    have hg1 : w.heap.size + 2 ≤ w1.heap.size := by have := he1.hsize; rw [hbz] at this; exact this
    have B6 := Lib.hid ((Blk.ext h2.out he1).ext (Ext.alloc w1 (.cells noRegs 30)))
    have B11 := Lib.hid (Blk.new w1 30 noRegs)
    have hds := Lib.hid hO.1
    have hone := Lib.hid hO.regs.one
    have hns : noRegs.size = ds.size := by rw [hds.out]; rfl
    have HI : Hid (InvR ((w1.alloc (.cells noRegs 30)).setRow w1.heap.size ds) (w.heap.size + 2) w1.heap.size ds rs) := Lib.hid (by
      rw [World.setRow_alloc_new]
      refine ⟨hO.ext (Ext.alloc _ _), Blk.new _ _ _, fun j k hk => ?_⟩
      by_cases hj : j < 27
      · obtain ⟨u, h1, h2⟩ := hO.2 j hj
        rw [ownB_of h1] at hk
        have := (h2.blk k hk).2
        omega
      · unfold ownB at hk
        rw [Array.getElem?_eq_none (by rw [hds.out]; omega)] at hk
        cases hk)
    have HX : Hid (Ext w ((w1.alloc (.cells noRegs 30)).setRow w1.heap.size ds)) := Lib.hid ((he2.to_alloc _).setRow (by omega) _)
    have HT2 : Hid (Ints ((w1.alloc (.cells noRegs 30)).setRow w1.heap.size ds) A n c text) := Lib.hid ((HT.out.ext he1).ext (by
      rw [World.setRow_alloc_new]
      exact Ext.alloc _ _))
    have HB : Hid (Blk ((w1.alloc (.cells noRegs 30)).setRow w1.heap.size ds) (w.heap.size + 1) 30 noRegs) := Lib.hid (B6.out.setRow_other ds (by omega))
    have Hap := Lib.hid hap
    clear HC h1 h2 h3 he1 he2 hO hap hbz HT HS hv B6
    go_upto_if 40 with (refine wpList_store_row rfl 30 (.tmp 11) (.tmp 39) rfl w1.heap.size ds rfl rfl 30 noRegs B11.out (regs_size hds.out) hns hone.out ?_)
    clear B11 hone hns
    have hsz : w1.heap.size < ((w1.alloc (.cells noRegs 30)).setRow w1.heap.size ds).heap.size := by simp
    change Code.wp _ _ _ _ ((w1.alloc (.cells noRegs 30)).setRow w1.heap.size ds)
    generalize (w1.alloc (.cells noRegs 30)).setRow w1.heap.size ds = W at *
    generalize w1.heap.size = g at *
    obtain ⟨v2, hv2, B2, q2, d2, rfl, hO2, hB2, hq2⟩ := HI.out.1.2 i hi
    obtain rfl : q2 = q := by have := hO2.ints.len; rw [HL.out] at this; omega
    have c2 : W.cell? ⟨g, i, none⟩ = some (.slice B2 q2 d2) := by rw [HI.out.2.1.cell i, hv2]
    have hx := HX.out
    have hb2 := ownB_of hv2
    go_wp2_with (at_builtin; refine wpList_app rfl (.tmp 44) (.tmp 45) 22 rfl w (w.heap.size + 2) 3 i0 (.int .i64 0) 1 8 Try.underlying22 hi0 hz0 hz1 hz2 rfl (by decide) B2 q2 d2 ((rs i).map (Value.int .i64)) rfl hO2 A n c (text.map (Value.int .i64)) rfl HT2.out HT2.out.one ?_ ?_ hx (by omega) (by omega) ?_)
    · unfold maxLen; omega
    · omega
    · intro A2 e2 w3 k1 k2 k3 k4
      have hv3 : RegOw w3 (w.heap.size + 2) (.slice A2 (q2 + n) e2) (rs i ++ text) := ⟨A2, q2 + n, e2, rfl, by have := k1; rw [← List.map_append] at this; exact this, Own.nocap k1, by omega⟩
      have hne : (Value.slice A2 (q2 + n) e2).ownBlock ≠ some g := by
        intro e
        rcases k3 with k3 | k3
        · rw [k3] at e; exact HI.out.2.2 i g (by rw [hb2]; exact e) rfl
        · rw [k3] at e; injection e with e; omega
      have HI2 := Lib.hid (HI.out.put Hap.out (i := i) (by rw [hb2]; exact k2) hv3 hne hi)
      have HX2 := Lib.hid (k4.setCell (p := ⟨g, i, none⟩) (show w.heap.size ≤ g by omega) (.slice A2 (q2 + n) e2))
      have HB2 := Lib.hid (set_other (HB.out.grown k2 (fun e => by have := (Own.blk hO2 _ e.symm).1; omega)) (show g ≠ w.heap.size + 1 by omega) i (.slice A2 (q2 + n) e2))
      have hBg : Blk w3 g 30 ds := HI.out.2.1.grown k2 (fun e => HI.out.2.2 i g (by rw [hb2]; exact e.symm) rfl)
      have c3 : w3.cell? ⟨g, i, none⟩ = some (.slice B2 q2 d2) := by rw [hBg.cell i, hv2]
      have f3 := hBg.frozen i
      have hsz2 : g < w3.heap.size := hBg.lt
      clear k1 k2 k3 k4 hv3 hne hBg HI HX HB hO2 hB2 hq2 hv2 c2 hx hb2 HT2 Hap
      go_upto_region 10 with fail
      clear c3 f3
      have hsz3 : g < (w3.setCell ⟨g, i, none⟩ (.slice A2 (q2 + n) e2)).heap.size := by simpa using hsz2
      generalize w3.setCell ⟨g, i, none⟩ (.slice A2 (q2 + n) e2) = W2 at *
      generalize ds.setIfInBounds i (.slice A2 (q2 + n) e2) = ds2 at *
      obtain ⟨v3, hv3, B3, q3, d3, rfl, hO3, hB3, hq3⟩ := HI2.out.1.2 i hi
      have c3 : W2.cell? ⟨g, i, none⟩ = some (.slice B3 q3 d3) := by rw [HI2.out.2.1.cell i, hv3]
      have HC2 := Lib.hid (clone_ok hO3.ints hB3 hq3)
      have hrs : upd rs i (rs i ++ text) i = (rs i ++ text) := by unfold upd; rw [if_pos rfl]
      rw [hrs] at HC2
      have hdz : ds2.size = 27 := HI2.out.1.1
      clear hv3 hO3 hB3 hrs
      go_wp2_with fail
      refine HC2.out.mono ?_
      rintro e w5 ⟨B4, d4, rfl, hO4, hB4, he5⟩
      have HI5 := Lib.hid (HI2.out.ext he5)
      have HX5 := Lib.hid (HX2.out.trans he5)
      have HB5 := Lib.hid (Blk.ext HB2.out he5)
      have hz4 : RegOw w5 (w.heap.size + 2) (.slice B4 q3 d4) (rs i ++ text) := ⟨B4, q3, d4, rfl, Own.lower hO4 (by omega), hB4, hq3⟩
      have hne4 : (Value.slice B4 q3 d4).ownBlock ≠ some g := fun e => by have := (Own.blk hO4 g e).1; omega
      have HI6 := Lib.hid (HI5.out.store (i := 0) hz4 hne4 (by omega))
      have HP : Hid (PutO (w5.setCell ⟨g, 0, none⟩ (.slice B4 q3 d4)) (w.heap.size + 2) (ds2.setIfInBounds 0 (.slice B4 q3 d4)) (putF rs i true text)) := Lib.hid (by
        refine ⟨HI6.out.1, W2.heap.size, fun j k h1 h2 hk => ?_, fun k hk => ?_⟩
        · rw [ownB_set_ne (by omega)] at hk
          exact (HI2.out.blk h2 hk).2
        · rw [ownB_set_self (by omega)] at hk
          exact (Own.blk hO4 k hk).1)
      have HX6 := Lib.hid (HX5.out.setCell (p := ⟨g, 0, none⟩) (show w.heap.size ≤ g by omega) (.slice B4 q3 d4))
      have HB6 := Lib.hid (set_other HB5.out (show g ≠ w.heap.size + 1 by omega) 0 (.slice B4 q3 d4))
      obtain ⟨v0, hv0, _⟩ := HI5.out.1.2 0 (by omega)
      have c0 : w5.cell? ⟨g, 0, none⟩ = some v0 := by rw [HI5.out.2.1.cell 0, hv0]
      have f0 := HI5.out.2.1.frozen 0
      clear HC2 hO4 hB4 he5 hz4 hne4 HI2 HX2 HB2 HI5 HX5 HB5 hv0 c3
      go_upto_region 11 with fail
      clear c0 f0
      generalize w5.setCell ⟨g, 0, none⟩ (.slice B4 q3 d4) = W6 at *
      have hd3 : (ds2.setIfInBounds 0 (.slice B4 q3 d4)).size = 27 := HI6.out.1.1
      have hone3 : (ds2.setIfInBounds 0 (.slice B4 q3 d4)).all (·.oneCell') = true := HI6.out.1.regs.one
      generalize ds2.setIfInBounds 0 (.slice B4 q3 d4) = ds3 at *
      have hns3 : noRegs.size = ds3.size := by rw [hd3]; rfl
      have HG := Lib.hid HI6.out.2.1
      have hres := HB6.out.setRow ds3
      have HE : Hid (PutO (W6.setRow (w.heap.size + 1) ds3) w.heap.size ds3 (putF rs i true text)) := Lib.hid ⟨(HP.out.1.setRow (show w.heap.size + 1 < w.heap.size + 2 by omega) ds3).lower (by omega), HP.out.2⟩
      have HXE := Lib.hid (HX6.out.setRow (show w.heap.size ≤ w.heap.size + 1 by omega) ds3)
      have Hres := Lib.hid hres
      clear hres HI6 HP HX6
      go_wp2_with (first | (refine wpList_load_row rfl 30 (.tmp 11) rfl g rfl 30 ds3 (0, 0) _ HG.out Try.underlying30 rfl (regs_size hd3) ?_) | (refine wpList_store_row rfl 30 (.tmp 6) (.tmp 57) rfl (w.heap.size + 1) ds3 rfl rfl 30 noRegs HB6.out (regs_size hd3) hns3 hone3 ?_))
      refine bodyPost_ret (v := .tuple #[.agg ds3, .int .i64 0]) ?_ rfl ⟨ds3, rfl, HE.out, HXE.out⟩
      exact results_row_tmp rfl _ _ (w.heap.size + 1) 30 _ _ _ _ rfl rfl Hres.out Try.underlying30 rfl (regs_size hd3)
  | false =>
    clear hx
    go_enter Try.func56, Try.ntmps56
    go_wp2_with fail
    refine ((HN _).out).mono ?_
    rintro e w1 ⟨rfl, rfl⟩
    clear HN
    go_wp2_with (refine wpList_load_row rfl 30 (.tmp 3) rfl w.heap.size rfl 30 cs (0, 0) _ h1.out Try.underlying30 rfl (regs_size HS.out) ?_)
    refine HC.out.mono ?_
    rintro e w1 ⟨ds, rfl, hO, hap, he1⟩
    have he2 := h3.out.trans he1
    have hbz : ((w.alloc (.cells cs 30)).alloc (.cells noRegs 30)).heap.size = w.heap.size + 2 := by simp
    rw [hbz] at hO
    have hg1 : w.heap.size + 2 ≤ w1.heap.size := by have := he1.hsize; rw [hbz] at this; exact this
    have B6 := Lib.hid ((Blk.ext h2.out he1).ext (Ext.alloc w1 (.cells noRegs 30)))
    have B11 := Lib.hid (Blk.new w1 30 noRegs)
    have hds := Lib.hid hO.1
    have hone := Lib.hid hO.regs.one
    have hns : noRegs.size = ds.size := by rw [hds.out]; rfl
    have HI : Hid (InvR ((w1.alloc (.cells noRegs 30)).setRow w1.heap.size ds) (w.heap.size + 2) w1.heap.size ds rs) := Lib.hid (by
      rw [World.setRow_alloc_new]
      refine ⟨hO.ext (Ext.alloc _ _), Blk.new _ _ _, fun j k hk => ?_⟩
      by_cases hj : j < 27
      · obtain ⟨u, h1, h2⟩ := hO.2 j hj
        rw [ownB_of h1] at hk
        have := (h2.blk k hk).2
        omega
      · unfold ownB at hk
        rw [Array.getElem?_eq_none (by rw [hds.out]; omega)] at hk
        cases hk)
    have HX : Hid (Ext w ((w1.alloc (.cells noRegs 30)).setRow w1.heap.size ds)) := Lib.hid ((he2.to_alloc _).setRow (by omega) _)
    have HT2 : Hid (Ints ((w1.alloc (.cells noRegs 30)).setRow w1.heap.size ds) A n c text) := Lib.hid ((HT.out.ext he1).ext (by
      rw [World.setRow_alloc_new]
      exact Ext.alloc _ _))
    have HB : Hid (Blk ((w1.alloc (.cells noRegs 30)).setRow w1.heap.size ds) (w.heap.size + 1) 30 noRegs) := Lib.hid (B6.out.setRow_other ds (by omega))
    have Hap := Lib.hid hap
    clear HC h1 h2 h3 he1 he2 hO hap hbz HT HS hv B6
    go_upto_if 40 with (refine wpList_store_row rfl 30 (.tmp 11) (.tmp 39) rfl w1.heap.size ds rfl rfl 30 noRegs B11.out (regs_size hds.out) hns hone.out ?_)
    clear B11 hone hns
    have hsz : w1.heap.size < ((w1.alloc (.cells noRegs 30)).setRow w1.heap.size ds).heap.size := by simp
    change Code.wp _ _ _ _ ((w1.alloc (.cells noRegs 30)).setRow w1.heap.size ds)
    generalize (w1.alloc (.cells noRegs 30)).setRow w1.heap.size ds = W at *
    generalize w1.heap.size = g at *
    have HCT := Lib.hid (clone_ok HT2.out hA (by omega))
    obtain ⟨v2, hv2, _⟩ := HI.out.1.2 i hi
    go_wp2_with fail
    refine HCT.out.mono ?_
    rintro e w3 ⟨A2, e2, rfl, k1, k2, k3⟩
    have hv3 : RegOw w3 (w.heap.size + 2) (.slice A2 n e2) text := ⟨A2, n, e2, rfl, Own.lower k1 (by omega), k2, by omega⟩
    have hne : (Value.slice A2 n e2).ownBlock ≠ some g := fun e => by have := (Own.blk k1 g e).1; omega
    have HI2 := Lib.hid ((HI.out.ext k3).store (i := i) hv3 hne hi)
    have HX2 := Lib.hid ((HX.out.trans k3).setCell (p := ⟨g, i, none⟩) (show w.heap.size ≤ g by omega) (.slice A2 n e2))
    have HB2 := Lib.hid (set_other (Blk.ext HB.out k3) (show g ≠ w.heap.size + 1 by omega) i (.slice A2 n e2))
    have hBg : Blk w3 g 30 ds := Blk.ext HI.out.2.1 k3
    have c3 : w3.cell? ⟨g, i, none⟩ = some v2 := by rw [hBg.cell i, hv2]
    have f3 := hBg.frozen i
    have hsz2 : g < w3.heap.size := hBg.lt
    clear k1 k2 k3 hv3 hne hBg HI HX HB hv2 HT2 HCT Hap
    go_upto_region 10 with fail
    clear c3 f3
    have hsz3 : g < (w3.setCell ⟨g, i, none⟩ (.slice A2 n e2)).heap.size := by simpa using hsz2
    generalize w3.setCell ⟨g, i, none⟩ (.slice A2 n e2) = W2 at *
    generalize ds.setIfInBounds i (.slice A2 n e2) = ds2 at *
    obtain ⟨v3, hv3, B3, q3, d3, rfl, hO3, hB3, hq3⟩ := HI2.out.1.2 i hi
    have c3 : W2.cell? ⟨g, i, none⟩ = some (.slice B3 q3 d3) := by rw [HI2.out.2.1.cell i, hv3]
    have HC2 := Lib.hid (clone_ok hO3.ints hB3 hq3)
    have hrs : upd rs i text i = text := by unfold upd; rw [if_pos rfl]
    rw [hrs] at HC2
    have hdz : ds2.size = 27 := HI2.out.1.1
    clear hv3 hO3 hB3 hrs
    go_wp2_with fail
    refine HC2.out.mono ?_
    rintro e w5 ⟨B4, d4, rfl, hO4, hB4, he5⟩
    have HI5 := Lib.hid (HI2.out.ext he5)
    have HX5 := Lib.hid (HX2.out.trans he5)
    have HB5 := Lib.hid (Blk.ext HB2.out he5)
    have hz4 : RegOw w5 (w.heap.size + 2) (.slice B4 q3 d4) text := ⟨B4, q3, d4, rfl, Own.lower hO4 (by omega), hB4, hq3⟩
    have hne4 : (Value.slice B4 q3 d4).ownBlock ≠ some g := fun e => by have := (Own.blk hO4 g e).1; omega
    have HI6 := Lib.hid (HI5.out.store (i := 0) hz4 hne4 (by omega))
    have HP : Hid (PutO (w5.setCell ⟨g, 0, none⟩ (.slice B4 q3 d4)) (w.heap.size + 2) (ds2.setIfInBounds 0 (.slice B4 q3 d4)) (putF rs i false text)) := Lib.hid (by
      refine ⟨HI6.out.1, W2.heap.size, fun j k h1 h2 hk => ?_, fun k hk => ?_⟩
      · rw [ownB_set_ne (by omega)] at hk
        exact (HI2.out.blk h2 hk).2
      · rw [ownB_set_self (by omega)] at hk
        exact (Own.blk hO4 k hk).1)
    have HX6 := Lib.hid (HX5.out.setCell (p := ⟨g, 0, none⟩) (show w.heap.size ≤ g by omega) (.slice B4 q3 d4))
    have HB6 := Lib.hid (set_other HB5.out (show g ≠ w.heap.size + 1 by omega) 0 (.slice B4 q3 d4))
    obtain ⟨v0, hv0, _⟩ := HI5.out.1.2 0 (by omega)
    have c0 : w5.cell? ⟨g, 0, none⟩ = some v0 := by rw [HI5.out.2.1.cell 0, hv0]
    have f0 := HI5.out.2.1.frozen 0
    clear HC2 hO4 hB4 he5 hz4 hne4 HI2 HX2 HB2 HI5 HX5 HB5 hv0 c3
    go_upto_region 11 with fail
    clear c0 f0
    generalize w5.setCell ⟨g, 0, none⟩ (.slice B4 q3 d4) = W6 at *
    have hd3 : (ds2.setIfInBounds 0 (.slice B4 q3 d4)).size = 27 := HI6.out.1.1
    have hone3 : (ds2.setIfInBounds 0 (.slice B4 q3 d4)).all (·.oneCell') = true := HI6.out.1.regs.one
    generalize ds2.setIfInBounds 0 (.slice B4 q3 d4) = ds3 at *
    have hns3 : noRegs.size = ds3.size := by rw [hd3]; rfl
    have HG := Lib.hid HI6.out.2.1
    have hres := HB6.out.setRow ds3
    have HE : Hid (PutO (W6.setRow (w.heap.size + 1) ds3) w.heap.size ds3 (putF rs i false text)) := Lib.hid ⟨(HP.out.1.setRow (show w.heap.size + 1 < w.heap.size + 2 by omega) ds3).lower (by omega), HP.out.2⟩
    have HXE := Lib.hid (HX6.out.setRow (show w.heap.size ≤ w.heap.size + 1 by omega) ds3)
    have Hres := Lib.hid hres
    clear hres HI6 HP HX6
    go_wp2_with (first | (refine wpList_load_row rfl 30 (.tmp 11) rfl g rfl 30 ds3 (0, 0) _ HG.out Try.underlying30 rfl (regs_size hd3) ?_) | (refine wpList_store_row rfl 30 (.tmp 6) (.tmp 57) rfl (w.heap.size + 1) ds3 rfl rfl 30 noRegs HB6.out (regs_size hd3) hns3 hone3 ?_))
    refine bodyPost_ret (v := .tuple #[.agg ds3, .int .i64 0]) ?_ rfl ⟨ds3, rfl, HE.out, HXE.out⟩
    exact results_row_tmp rfl _ _ (w.heap.size + 1) 30 _ _ _ _ rfl rfl Hres.out Try.underlying30 rfl (regs_size hd3)
end Go.Proofs.Ytmhgndjmcignjaa
