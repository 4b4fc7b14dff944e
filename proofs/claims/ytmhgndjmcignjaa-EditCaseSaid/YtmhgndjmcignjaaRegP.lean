/-
  The walks of reg.Put.
-/
import Derived.Test.YtmhgndjmcignjaaRegW
namespace Go.Proofs.Ytmhgndjmcignjaa
open Go.RowKit
set_option linter.unusedVariables false
set_option linter.unusedSimpArgs false

/-- A struct or array in a cell, and a value beside it. -/
theorem results_row_tmp {P : Program} {fn : Func} {p q : Tmp} {ty : TypeId} (h : fn.results = #[.cell p ty, .tmp q]) (tmps : Array Value) (w : World) (g : Nat) (t : TypeId) (cs : Array Value) (fr : Nat × Nat) (d : TypeDesc) (v : Value)
    (hp : tmps.getD p undef = .pointer (some ⟨g, 0, none⟩)) (hq : tmps.getD q undef = v) (hg : w.heap[g]? = some (.cells cs t fr))
    (hu : P.underlying ty = some d) (hd : (match d with | .struct _ | .array _ _ => true | _ => false) = true) (hi : (P.info? ty).map (·.size) = some cs.size) :
    (results fn tmps).run P w = .ok (.tuple #[.agg cs, v]) w := by
  have hp' : tmps[p]?.getD undef = .pointer (some ⟨g, 0, none⟩) := by simpa using hp
  have hq' : tmps[q]?.getD undef = v := by simpa using hq
  simp [results, h, hp', hq', asAddr, run_loadVar_row w g t ty cs fr d hg hu hd hi]

theorem noRegs_size : noRegs.size = 27 := rfl
theorem noRegs_one : noRegs.all (·.oneCell') = true := by decide +kernel

section
variable {w : World} {cs : Array Value} {rs : Nat → List Int} {k : Int} {A : Option Addr} {n c : Nat} {text : List Int}

theorem two_blocks (w : World) (cs : Array Value) (t : TypeId) : Blk ((w.alloc (.cells cs t)).alloc (.cells noRegs t)) w.heap.size t cs ∧ Blk ((w.alloc (.cells cs t)).alloc (.cells noRegs t)) (w.heap.size + 1) t noRegs ∧ Ext w ((w.alloc (.cells cs t)).alloc (.cells noRegs t)) :=
  ⟨(Blk.new w _ cs).ext (Ext.alloc _ _), by
    have := Blk.new (w.alloc (.cells cs t)) t noRegs
    rwa [World.size_alloc] at this, (Ext.alloc _ _).to_alloc _⟩

set_option maxRecDepth 20000 in
set_option maxHeartbeats 4000000 in
theorem put_key (h : regNo k = none) : Calls Try.prog 56 #[.agg cs, .int .i64 k, .slice A n c] w fun e w' => e = .returned (.tuple #[.agg noRegs, .int .i64 9]) ∧ Ext w w' := by
  have HN := fun w => Lib.hid (number_no w h)
  clear h
  obtain ⟨H1, H2, H3⟩ := two_blocks w cs 30
  have h2 := Lib.hid H2
  have h3 := Lib.hid H3
  clear H1 H2 H3
  go_enter Try.func56, Try.ntmps56
  go_wp2_with fail
  refine ((HN _).out).mono ?_
  rintro e w1 ⟨rfl, rfl⟩
  clear HN
  go_wp2_with (refine wpList_store_row rfl 30 (.tmp 6) (.tmp 20) rfl (w.heap.size + 1) noRegs rfl rfl 30 noRegs h2.out (regs_size noRegs_size) rfl noRegs_one ?_)
  have hres := h2.out.setRow noRegs
  refine bodyPost_ret (v := .tuple #[.agg noRegs, .int .i64 9]) ?_ rfl ⟨rfl, h3.out.setRow (Nat.le_succ _) _⟩
  exact results_row_tmp rfl _ _ (w.heap.size + 1) 30 _ _ _ _ rfl rfl hres Try.underlying30 rfl (regs_size noRegs_size)

/-- Too much for a register. -/
def putBig (rs : Nat → List Int) (i : Nat) (m : Bool) (text : List Int) : Prop := 200 < text.length ∨ (m = true ∧ 200 < (rs i).length + text.length)
set_option maxRecDepth 20000 in
set_option maxHeartbeats 4000000 in
theorem put_large {i : Nat} {m : Bool} (hr : Regs w cs rs) (ht : Ints w A n c text) (h : regNo k = some (i, m)) (hb : putBig rs i m text) :
    Calls Try.prog 56 #[.agg cs, .int .i64 k, .slice A n c] w fun e w' => e = .returned (.tuple #[.agg noRegs, .int .i64 2]) ∧ Ext w w' := by
  have HN := fun w => Lib.hid (number_ok w h)
  have hi := regNo_lt h
  obtain ⟨v, hv, B, q, d, rfl, hI, hB, hq⟩ := hr.2 i hi
  have hnl := ht.len
  have hnc := ht.ncap
  have hnm := ht.nmax
  have hql := hI.len
  unfold putBig at hb
  rw [hnl, hql] at hb
  obtain ⟨H1, H2, H3⟩ := two_blocks w cs 30
  have h2 := Lib.hid H2
  have h3 := Lib.hid H3
  have hnm' : n ≤ 9223372036854775807 := by unfold maxLen at hnm; omega
  have hqm : q ≤ 9223372036854775807 := by omega
  clear h H1 H2 H3 hr ht hnl hql hI hnm hnc hB hq
  by_cases hb1 : 200 < n
  · clear hb
    go_enter Try.func56, Try.ntmps56
    go_wp2_with fail
    refine ((HN _).out).mono ?_
    rintro e w1 ⟨rfl, rfl⟩
    clear HN
    go_wp2_with (refine wpList_store_row rfl 30 (.tmp 6) (.tmp 37) rfl (w.heap.size + 1) noRegs rfl rfl 30 noRegs h2.out (regs_size noRegs_size) rfl noRegs_one ?_)
    have hres := h2.out.setRow noRegs
    refine bodyPost_ret (v := .tuple #[.agg noRegs, .int .i64 2]) ?_ rfl ⟨rfl, h3.out.setRow (Nat.le_succ _) _⟩
    exact results_row_tmp rfl _ _ (w.heap.size + 1) 30 _ _ _ _ rfl rfl hres Try.underlying30 rfl (regs_size noRegs_size)
  · obtain ⟨rfl, hb2⟩ : m = true ∧ 200 < q + n := by rcases hb with hb | hb; exact absurd hb hb1; exact hb
    have hx : (200 : Int) - n < q := by omega
    have hn2 : n ≤ 200 := by omega
    clear hb hb1 hb2
    go_enter Try.func56, Try.ntmps56
    go_wp2_with fail
    refine ((HN _).out).mono ?_
    rintro e w1 ⟨rfl, rfl⟩
    clear HN
    go_wp2_with (refine wpList_store_row rfl 30 (.tmp 6) (.tmp 37) rfl (w.heap.size + 1) noRegs rfl rfl 30 noRegs h2.out (regs_size noRegs_size) rfl noRegs_one ?_)
    have hres := h2.out.setRow noRegs
    refine bodyPost_ret (v := .tuple #[.agg noRegs, .int .i64 2]) ?_ rfl ⟨rfl, h3.out.setRow (Nat.le_succ _) _⟩
    exact results_row_tmp rfl _ _ (w.heap.size + 1) 30 _ _ _ _ rfl rfl hres Try.underlying30 rfl (regs_size noRegs_size)
end
end Go.Proofs.Ytmhgndjmcignjaa
