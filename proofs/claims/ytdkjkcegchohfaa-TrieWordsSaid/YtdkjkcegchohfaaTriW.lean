/-
  put: a word is put into the trie.
-/
import Derived.Test.YtdkjkcegchohfaaTriP
import Derived.Test.YtdkjkcegchohfaaCut
import Derived.Test.YtdkjkcegchohfaaPush
import Derived.Maps.OwnSet
import Derived.Laws.Cover3
import Derived.Shelf.RegionOpen
import Derived.Deep.RegionHeld3
namespace Go.Proofs.Ytdkjkcegchohfaa
open Go.RowKit Go.Shelf
set_option linter.unusedVariables false
set_option linter.unusedSimpArgs false
attribute [local go_sem] Oper.semAt_some

theorem zero_trie (w : World) : (zeroValue 58).run Try.prog w = .ok (.pointer none) w := by kernel_rfl
theorem eql_map_nil (M : Option Nat) (u : World) : (binOp .eql 95 (.map M) (.map none)).run Try.prog u = .ok (.bool M.isNone) u := by
  simp only [binOp]
  simp [Op.equal, Op.maxDepth, run_equalIn_map_nil u 9999 _ _ _ M Try.underlying95]
theorem setF_id {F : TF} {p : List Int} {v : Bool × Nat} (h : F p = some v) : setF F p v = F := by
  funext q
  unfold setF
  by_cases e : q = p
  · rw [if_pos e, e, h]
  · rw [if_neg e]
theorem setF_setF (F : TF) (p : List Int) (v v' : Bool × Nat) : setF (setF F p v) p v' = setF F p v' := by
  funext q
  unfold setF
  by_cases e : q = p <;> simp [e]
theorem atF_some {F : TF} {p : List Int} {v : Bool × Nat} (h : F p = some v) : atF F p = v := by unfold atF; rw [h]; rfl
theorem TrIs.cells {w : World} {b0 K : Nat} {F : TF} {ns : List Int → TrN} (h : TrIs w b0 K F ns) {p : List Int} {v : Bool × Nat} (hp : F p = some v) :
    w.cell? ⟨(ns p).a, 0, none⟩ = some (.map (ns p).m) ∧ w.cell? ⟨(ns p).a, 1, none⟩ = some (.bool v.1) ∧ w.cell? ⟨(ns p).a, 2, none⟩ = some (.int .i64 v.2) ∧ (∀ i, w.frozen? ⟨(ns p).a, i, none⟩ = false) := by
  have := h.blk hp
  exact ⟨by rw [this.cell 0]; rfl, by rw [this.cell 1]; rfl, by rw [this.cell 2]; rfl, fun i => this.frozen i⟩
/-- Cells stay where a map is turned. -/
theorem cells_turned {w w' : World} {b n : Nat} {f : Int → Option Value} (h : MapO w b n f) (hg : w.grownBy w' (some b)) {p q : Addr} {u v : Value} (h1 : w.cell? p = some u) (h2 : w.cell? q = some v) : w'.cell? p = some u ∧ w'.cell? q = some v := by
  obtain ⟨es, clock, hb⟩ := h.block
  have key : ∀ {p : Addr} {u : Value}, w.cell? p = some u → w'.cell? p = some u := fun {p u} h => by
    have hne : some p.block ≠ some b := by
      intro e
      injection e with e
      unfold World.cell? at h
      rw [e, hb] at h
      cases h
    exact (World.cell?_of_block (hg.block _ (World.block_lt_of_cell? w p h) hne)).trans h
  exact ⟨key h1, key h2⟩
/-- A step 'm[k] = v' in a drawn region. -/
theorem step_put_o {ops : Array Oper} {w : World} {o : Oper} {a : Act} {K : Act → World → Prop} {Q : Exit → Act → World → Prop} {E : Prop} (hgd : o.guard = none) (m x v : Operand) (t e : TypeId) (hop : o.op = Op.mapUpdate t m x v)
    (ht : Try.prog.underlying t = some (.map 3 e)) {b n : Nat} {f : Int → Option Value} (hm : a.eval m = .map (some b)) (h : MapO w b n f) (hn : n < maxLen) (k : Int) (u : Value) (hx : a.eval x = .int .i64 k) (hk : (Lit.int .i64 k).wf = true) (hv : a.eval v = u)
    (hK : ∀ w', MapO w' b (n + 1) (updO f k u) → w.grownBy w' (some b) → K (a.put o.dst undef) w') : if Region.wanted o (yielded ops a.tmps) = true then Oper.wp Try.prog o a w K Q else E := by
  have hw : Region.wanted o (yielded ops a.tmps) = true := by simp [Region.wanted, hgd]
  rw [if_pos hw]
  obtain ⟨w', hrun, k1, k2⟩ := h.put ht hn k u hk
  unfold Oper.wp
  simp [execOp, hop, hm, hx, hv, hrun, Result.andThen]
  exact hK w' k1 k2

set_option maxRecDepth 20000 in
set_option maxHeartbeats 1000000 in
theorem tput_ok : ∀ (u : List Int) {p : List Int} {ns : List Int → TrN} {F : TF} {K : Nat} {A : Option Addr} {n c : Nat} {w0 w : World}, TrIs w w0.heap.size K F ns → (F p).isSome → Ints w0 A n c u → (∀ x ∈ u, (Lit.int .i64 x).wf = true) → K + u.length + 1 ≤ 100000 → Ext w0 w →
    Calls Try.prog 52 #[(ns p).ptr, .slice A n c] w fun e w' => e = .returned (.bool (!(atF F (p ++ u)).1)) ∧ ∃ ns', TrIs w' w0.heap.size (K + u.length + 1) (addF F p u) ns' ∧ Ext w0 w' ∧ ∀ q, (F q).isSome → (ns' q).a = (ns q).a
  | [], p, ns, F, K, A, n, c, w0, w, hT, hp, hI, hwf, hK, he => by
    obtain rfl : n = 0 := by have := hI.len; simpa using this.symm
    obtain ⟨v, hv⟩ := Option.isSome_iff_exists.1 hp
    obtain ⟨c0, c1, c2, cf⟩ := hT.cells hv
    have hvK := (hT.node p v hv).2.2
    have hb := (hT.node p v hv).1
    have f1 := cf 1
    have f2 := cf 2
    have HT := Lib.hid hT
    have HV := Lib.hid hv
    clear hT hI hp cf
    obtain ⟨vw, vs⟩ := v
    unfold TrN.ptr
    simp only at c1 c2 hvK
    cases vw with
    | true =>
      go_enter Try.func52, Try.ntmps52
      go_wp2_with fail
      go_ret
      refine ⟨ret_bool (by rw [List.append_nil, atF_some HV.out]; rfl), ns, ?_, he, fun _ _ => rfl⟩
      rw [addF_nil]
      have e : ((atF F p).2 + freshF F p) = vs := by rw [atF_some HV.out]; unfold freshF; rw [atF_some HV.out]; rfl
      rw [e, setF_id HV.out]
      exact HT.out.mono (by omega)
    | false =>
      go_enter Try.func52, Try.ntmps52
      go_wp2_with fail
      go_ret
      have h1 := HT.out.mono (K' := K + 1) (by omega)
      have h2 := h1.setv HV.out (i := 1) (u := .bool true) (v' := (true, vs)) rfl (by show vs ≤ K + 1; omega)
      have h3 := h2.setv (setF_same F p (true, vs)) (i := 2) (u := .int .i64 ((vs : Int) + 1)) (v' := (true, vs + 1)) (by unfold trC; simp) (by show vs + 1 ≤ K + 1; omega)
      rw [setF_setF] at h3
      refine ⟨ret_bool (by rw [List.append_nil, atF_some HV.out]; rfl), ns, ?_, (he.setCell (p := ⟨(ns p).a, 1, none⟩) hb _).setCell (p := ⟨(ns p).a, 2, none⟩) hb _, fun _ _ => rfl⟩
      rw [addF_nil]
      have e : ((atF F p).2 + freshF F p) = vs + 1 := by rw [atF_some HV.out]; unfold freshF; rw [atF_some HV.out]; rfl
      rw [e]
      exact h3
  | x :: u, p, ns, F, K, A, n, c, w0, w, hT, hp, hI, hwf, hK, he => by
    have hnl := hI.len
    have hnc := hI.ncap
    have hnm := Nat.le_trans hI.ncap hI.nmax
    obtain ⟨ad, rfl, hc0⟩ := hI.at_ (k := 0) (by simp at hnl; omega)
    have ca0 : w0.cell? ad = some (.int .i64 x) := by have := hc0 0 (by simp at hnl; omega); rw [add_nought] at this; exact this
    have hn0 : 0 < n := by simp at hnl; omega
    have hwx : (Lit.int .i64 x).wf = true := hwf x (by simp)
    have HWU : Hid (∀ y ∈ u, (Lit.int .i64 y).wf = true) := Lib.hid (fun y hy => hwf y (by simp [hy]))
    have HI := Lib.hid (hI.tailA (a := 1) (by omega))
    obtain ⟨v, hv⟩ := Option.isSome_iff_exists.1 hp
    have HV := Lib.hid hv
    have hKu : K + u.length + 2 ≤ 100000 := by simp at hK; omega
    unfold maxLen at hnm
    simp only [List.drop_succ_cons, List.drop_zero] at HI
    clear hI hwf hc0 hK hnl
    have hmm := @run_makeMap Try.prog
    unfold TrN.ptr
    have HTL : Hid (∀ u, (Instr.slice 23 (.slice (some ad) n c) (some (.int .i64 1)) none none).run Try.prog u = .ok (.slice (cutA (some ad) c 1) (n - 1) (c - 1)) u) := Lib.hid (fun u => run_tailA (some ad) n c 1 (by omega) u)
    have hsl := HTL.out
    have hqn := eql_map_nil none
    have hqs := fun b => eql_map_nil (some b)
    rcases hm : (ns p).m with _ | m
    · obtain ⟨c0, c1, c2, cf⟩ := hT.cells hv
      rw [hm] at c0
      have f0 := cf 0
      have hb := (hT.node p v hv).1
      have hlt := hT.lt hp
      have hne : ¬ (ns p).a = w.heap.size := by omega
      have HT := Lib.hid (hT.makeM hv hm he.hsize)
      have HM : Hid (((nsM ns p w.heap.size) p).m = some w.heap.size) := Lib.hid (nsM_same ns p _)
      have HA : Hid (∀ q, ((nsM ns p w.heap.size) q).a = (ns q).a) := Lib.hid (nsM_a ns p _)
      have HE : Hid (Ext w0 ((w.alloc (.map #[] 0)).setCell ⟨(ns p).a, 0, none⟩ (.map (some w.heap.size)))) := Lib.hid ((he.to_alloc _).setCell (p := ⟨(ns p).a, 0, none⟩) hb _)
      clear hT cf c1 c2 hb hm hv he hp
      go_enter Try.func52, Try.ntmps52
      go_wp2_with fail
      obtain ⟨wx, hwx⟩ : ∃ wx, wx = ((w.alloc (.map #[] 0)).setCell ⟨(ns p).a, 0, none⟩ (.map (some w.heap.size))) := ⟨_, rfl⟩
      obtain ⟨ns1, hns1⟩ : ∃ ns1, ns1 = nsM ns p w.heap.size := ⟨_, rfl⟩
      rw [← hwx] at HE HT
      rw [World.setCell_alloc_past _ _ _ _ hlt] at hwx
      rw [← hwx]
      rw [← hns1] at HT HM HA
      obtain ⟨m, hmw⟩ : ∃ m, m = w.heap.size := ⟨_, rfl⟩
      rw [← hmw] at HM ⊢
      clear hwx hns1 hmw c0 f0 hne hlt
      have HC : Hid (wx.drew.cell? ⟨(ns p).a, 0, none⟩ = some (.map (some m)) ∧ wx.drew.cell? ad = some (.int .i64 x)) := Lib.hid (by
        obtain ⟨d0, _⟩ := HT.out.cells HV.out
        rw [HM.out, HA.out] at d0
        exact ⟨d0, HE.out.cell ca0⟩)
      have hps : (F p).isSome := by rw [HV.out]; rfl
      have HMap := Lib.hid (HT.out.map HM.out hps)
      rcases hk : F (p ++ [x]) with _ | vk
      · have hlk : (Instr.lookup 95 (.map (some m)) (.int .i64 x) false).run Try.prog wx.drew = .ok (.pointer none) wx.drew := by
          have h1 := (MapO.ext HMap.out.2 (Ext.drew wx)).get Try.underlying95 (zero_trie _) hwx
          have h2 : kidV F ns1 p x = none := by unfold kidV; rw [hk]; rfl
          rw [h2] at h1
          exact h1
        refine wp_region_held_drew (S := fun w' => w'.cell? ⟨(ns p).a, 0, none⟩ = some (.map (some m)) ∧ w'.cell? ad = some (.int .i64 x) ∧ (Instr.lookup 95 (.map (some m)) (.int .i64 x) false).run Try.prog w' = .ok (.pointer none) w') (by kernel_rfl) ⟨HC.out.1, HC.out.2, hlk⟩ (fun hHeld => ?_)
        refine wpAnyH_take (i := 0) (v := (.pointer (some ⟨(ns p).a, 0, none⟩))) rfl (by kernel_rfl) (by kernel_rfl) (by kernel_rfl) (fun _ _ _ h => h) (Or.inl ⟨by rfl, by (intro w hSw; obtain ⟨q1, q2, q3⟩ := hSw; go_simp)⟩) hHeld ?_
        try simp only [List.getElem_toArray, List.getElem_cons_zero, List.getElem_cons_succ, Act.put, List.setIfInBounds_toArray, List.set_cons_zero, List.set_cons_succ]
        refine wpAnyH_take (i := 1) (v := (.pointer (some ⟨(ns p).a, 0, none⟩))) rfl (by kernel_rfl) (by kernel_rfl) (by kernel_rfl) (fun _ _ _ h => h) (Or.inl ⟨by rfl, by (intro w hSw; obtain ⟨q1, q2, q3⟩ := hSw; go_simp)⟩) hHeld ?_
        try simp only [List.getElem_toArray, List.getElem_cons_zero, List.getElem_cons_succ, Act.put, List.setIfInBounds_toArray, List.set_cons_zero, List.set_cons_succ]
        refine wpAnyH_take (i := 2) (v := (.pointer (some ⟨(ns p).a, 0, none⟩))) rfl (by kernel_rfl) (by kernel_rfl) (by kernel_rfl) (fun _ _ _ h => h) (Or.inl ⟨by rfl, by (intro w hSw; obtain ⟨q1, q2, q3⟩ := hSw; go_simp)⟩) hHeld ?_
        try simp only [List.getElem_toArray, List.getElem_cons_zero, List.getElem_cons_succ, Act.put, List.setIfInBounds_toArray, List.set_cons_zero, List.set_cons_succ]
        refine wpAnyH_take (i := 3) (v := (.map (some m))) rfl (by kernel_rfl) (by kernel_rfl) (by kernel_rfl) (fun _ _ _ h => h) (Or.inl ⟨by rfl, by (intro w hSw; obtain ⟨q1, q2, q3⟩ := hSw; go_simp)⟩) hHeld ?_
        try simp only [List.getElem_toArray, List.getElem_cons_zero, List.getElem_cons_succ, Act.put, List.setIfInBounds_toArray, List.set_cons_zero, List.set_cons_succ]
        refine wpAnyH_take (i := 4) (v := (.slice (some ad) n c)) rfl (by kernel_rfl) (by kernel_rfl) (by kernel_rfl) (fun _ _ _ h => h) (Or.inl ⟨by rfl, by (intro w hSw; obtain ⟨q1, q2, q3⟩ := hSw; go_simp)⟩) hHeld ?_
        try simp only [List.getElem_toArray, List.getElem_cons_zero, List.getElem_cons_succ, Act.put, List.setIfInBounds_toArray, List.set_cons_zero, List.set_cons_succ]
        refine wpAnyH_take (i := 5) (v := (.pointer (some ad))) rfl (by kernel_rfl) (by kernel_rfl) (by kernel_rfl) (fun _ _ _ h => h) (Or.inl ⟨by rfl, by (intro w hSw; obtain ⟨q1, q2, q3⟩ := hSw; go_simp)⟩) hHeld ?_
        try simp only [List.getElem_toArray, List.getElem_cons_zero, List.getElem_cons_succ, Act.put, List.setIfInBounds_toArray, List.set_cons_zero, List.set_cons_succ]
        refine wpAnyH_take (i := 6) (v := (.int .i64 x)) rfl (by kernel_rfl) (by kernel_rfl) (by kernel_rfl) (fun _ _ _ h => h) (Or.inl ⟨by rfl, by (intro w hSw; obtain ⟨q1, q2, q3⟩ := hSw; go_simp)⟩) hHeld ?_
        try simp only [List.getElem_toArray, List.getElem_cons_zero, List.getElem_cons_succ, Act.put, List.setIfInBounds_toArray, List.set_cons_zero, List.set_cons_succ]
        refine wpAnyH_take (i := 7) (v := (.pointer none)) rfl (by kernel_rfl) (by kernel_rfl) (by kernel_rfl) (fun _ _ _ h => h) (Or.inl ⟨by rfl, by (intro w hSw; obtain ⟨q1, q2, q3⟩ := hSw; go_simp)⟩) hHeld ?_
        try simp only [List.getElem_toArray, List.getElem_cons_zero, List.getElem_cons_succ, Act.put, List.setIfInBounds_toArray, List.set_cons_zero, List.set_cons_succ]
        refine wpAnyH_take (i := 8) (v := (.pointer none)) rfl (by kernel_rfl) (by kernel_rfl) (by kernel_rfl) (fun _ _ _ h => h) (Or.inl ⟨by rfl, by (intro w hSw; obtain ⟨q1, q2, q3⟩ := hSw; go_simp)⟩) hHeld ?_
        try simp only [List.getElem_toArray, List.getElem_cons_zero, List.getElem_cons_succ, Act.put, List.setIfInBounds_toArray, List.set_cons_zero, List.set_cons_succ]
        refine wpAnyH_done (by kernel_rfl) ?_ _
        clear hlk hHeld
        go_wp2_with fail
        have hxa : Ext wx (wx.alloc (.cells #[.map none, .bool false, .int .i64 0] 97)).drew := (Ext.alloc wx _).to_drew
        have HMW : Hid (MapO (wx.alloc (.cells #[.map none, .bool false, .int .i64 0] 97)).drew.drew m K (kidV F ns1 p)) := Lib.hid (MapO.ext HMap.out.2 hxa.to_drew)
        have HC2 : Hid ((wx.alloc (.cells #[.map none, .bool false, .int .i64 0] 97)).drew.drew.cell? ⟨(ns p).a, 0, none⟩ = some (.map (some m)) ∧ (wx.alloc (.cells #[.map none, .bool false, .int .i64 0] 97)).drew.drew.cell? ad = some (.int .i64 x)) := Lib.hid ⟨hxa.cell HC.out.1, hxa.cell HC.out.2⟩
        refine wp_region_held_drew (S := fun w' => w'.cell? ⟨(ns p).a, 0, none⟩ = some (.map (some m)) ∧ w'.cell? ad = some (.int .i64 x)) (by kernel_rfl) HC2.out (fun hHeld => ?_)
        refine wpAnyH_take (i := 0) (v := (.pointer (some ⟨(ns p).a, 0, none⟩))) rfl (by kernel_rfl) (by kernel_rfl) (by kernel_rfl) (fun _ _ _ h => h) (Or.inl ⟨by rfl, by (intro w hSw; obtain ⟨q1, q2⟩ := hSw; go_simp)⟩) hHeld ?_
        try simp only [List.getElem_toArray, List.getElem_cons_zero, List.getElem_cons_succ, Act.put, List.setIfInBounds_toArray, List.set_cons_zero, List.set_cons_succ]
        refine wpAnyH_take (i := 1) (v := (.pointer (some ⟨(ns p).a, 0, none⟩))) rfl (by kernel_rfl) (by kernel_rfl) (by kernel_rfl) (fun _ _ _ h => h) (Or.inl ⟨by rfl, by (intro w hSw; obtain ⟨q1, q2⟩ := hSw; go_simp)⟩) hHeld ?_
        try simp only [List.getElem_toArray, List.getElem_cons_zero, List.getElem_cons_succ, Act.put, List.setIfInBounds_toArray, List.set_cons_zero, List.set_cons_succ]
        refine wpAnyH_take (i := 2) (v := (.pointer (some ⟨(ns p).a, 0, none⟩))) rfl (by kernel_rfl) (by kernel_rfl) (by kernel_rfl) (fun _ _ _ h => h) (Or.inl ⟨by rfl, by (intro w hSw; obtain ⟨q1, q2⟩ := hSw; go_simp)⟩) hHeld ?_
        try simp only [List.getElem_toArray, List.getElem_cons_zero, List.getElem_cons_succ, Act.put, List.setIfInBounds_toArray, List.set_cons_zero, List.set_cons_succ]
        refine wpAnyH_take (i := 3) (v := (.map (some m))) rfl (by kernel_rfl) (by kernel_rfl) (by kernel_rfl) (fun _ _ _ h => h) (Or.inl ⟨by rfl, by (intro w hSw; obtain ⟨q1, q2⟩ := hSw; go_simp)⟩) hHeld ?_
        try simp only [List.getElem_toArray, List.getElem_cons_zero, List.getElem_cons_succ, Act.put, List.setIfInBounds_toArray, List.set_cons_zero, List.set_cons_succ]
        refine wpAnyH_take (i := 4) (v := (.slice (some ad) n c)) rfl (by kernel_rfl) (by kernel_rfl) (by kernel_rfl) (fun _ _ _ h => h) (Or.inl ⟨by rfl, by (intro w hSw; obtain ⟨q1, q2⟩ := hSw; go_simp)⟩) hHeld ?_
        try simp only [List.getElem_toArray, List.getElem_cons_zero, List.getElem_cons_succ, Act.put, List.setIfInBounds_toArray, List.set_cons_zero, List.set_cons_succ]
        refine wpAnyH_take (i := 5) (v := (.pointer (some ad))) rfl (by kernel_rfl) (by kernel_rfl) (by kernel_rfl) (fun _ _ _ h => h) (Or.inl ⟨by rfl, by (intro w hSw; obtain ⟨q1, q2⟩ := hSw; go_simp)⟩) hHeld ?_
        try simp only [List.getElem_toArray, List.getElem_cons_zero, List.getElem_cons_succ, Act.put, List.setIfInBounds_toArray, List.set_cons_zero, List.set_cons_succ]
        refine wpAnyH_take (i := 6) (v := (.int .i64 x)) rfl (by kernel_rfl) (by kernel_rfl) (by kernel_rfl) (fun _ _ _ h => h) (Or.inl ⟨by rfl, by (intro w hSw; obtain ⟨q1, q2⟩ := hSw; go_simp)⟩) hHeld ?_
        try simp only [List.getElem_toArray, List.getElem_cons_zero, List.getElem_cons_succ, Act.put, List.setIfInBounds_toArray, List.set_cons_zero, List.set_cons_succ]
        refine wpAnyH_take (i := 7) (v := (.pointer (some ⟨wx.heap.size, 0, none⟩))) rfl (by kernel_rfl) (by kernel_rfl) (by kernel_rfl) (fun _ _ _ h => h) (Or.inl ⟨by rfl, by (intro w hSw; obtain ⟨q1, q2⟩ := hSw; go_simp)⟩) hHeld ?_
        try simp only [List.getElem_toArray, List.getElem_cons_zero, List.getElem_cons_succ, Act.put, List.setIfInBounds_toArray, List.set_cons_zero, List.set_cons_succ]
        refine wpAnyH_ready (rs := [8]) (by kernel_rfl) (by simp) ?_
        refine AllReadyH.cons rfl (fun K hK => ?_) AllReadyH.nil
        refine step_put_o rfl (.tmp 52) (.tmp 55) (.tmp 56) 95 58 rfl Try.underlying95 rfl HMW.out (by unfold maxLen; omega) x (.pointer (some ⟨wx.heap.size, 0, none⟩)) rfl hwx rfl ?_
        intro w3 k1 k2
        have hS3 := cells_turned HMW.out k2 HC2.out.1 HC2.out.2
        refine hK.out _ _ hS3 (fun hHeld2 => ?_)
        clear hK K hHeld
        try simp only [List.getElem_toArray, List.getElem_cons_zero, List.getElem_cons_succ, Act.put, List.setIfInBounds_toArray, List.set_cons_zero, List.set_cons_succ]
        refine wpAnyH_done (by kernel_rfl) ?_ _
        have hT3 := HT.out.addK (w1 := (wx.alloc (.cells #[.map none, .bool false, .int .i64 0] 97))) hps HM.out hk HE.out.hsize rfl k1 ⟨k2.os, k2.tape, k2.output, k2.size, k2.block⟩
        have eF : kidF1 F p x = setF F (p ++ [x]) (false, 0) := by unfold kidF1; rw [hk]; rfl
        rw [← eF] at hT3
        have he3 : Ext w0 w3 := Below.grown (HE.out.trans hxa.to_drew) k2 (HE.out.trans hxa.to_drew).hsize (fun j hj => by injection hj with hj; have := HMap.out.1; omega)
        have hc := tput_ok u hT3 (p := p ++ [x]) (by rw [eF, setF_same]; rfl) HI.out HWU.out (by omega) he3
        rw [nsK_same] at hc
        unfold TrN.ptr at hc
        clear hT3 k1 k2 he3 hS3 hxa eF
        go_wp2_with fail
        refine hc.mono ?_
        rintro e w4 ⟨rfl, ns2, hT4, he4, hA4⟩
        have HT4 : Hid (TrIs w4 w0.heap.size (K + (u.length + 1) + 1) (addF (kidF1 F p x) (p ++ [x]) u) ns2) := Lib.hid (hT4.mono (by omega))
        have HP : Hid ((addF (kidF1 F p x) (p ++ [x]) u) p = some v) := Lib.hid (by unfold addF; rw [if_neg (fun h => not_pre_more p x h.1), kidF1_ne F p x (snoc_ne p x)]; exact HV.out)
        have HA5 : Hid (∀ q, (F q).isSome → (ns2 q).a = (ns q).a) := Lib.hid (fun q hq => by
          have hne : q ≠ p ++ [x] := fun e => by rw [e, hk] at hq; cases hq
          rw [hA4 q (by rw [kidF1_ne F p x hne]; exact hq), nsK_other ns1 _ hne, HA.out q])
        obtain ⟨d0, d1, d2, df⟩ := HT4.out.cells HP.out
        have f2 := df 2
        have hb5 := (HT4.out.node p v HP.out).1
        rw [HA5.out p hps] at d2 f2 hb5
        have hvK := (HT.out.node p v HV.out).2.2
        obtain ⟨B, hB⟩ : ∃ B, B = (atF (kidF1 F p x) (p ++ [x] ++ u)).1 := ⟨_, rfl⟩
        rw [← hB]
        have HB : Hid (B = (atF F (p ++ x :: u)).1) := Lib.hid (by rw [hB, atF_kid]; simp)
        have HHE := Lib.hid he4
        obtain ⟨vw, vs⟩ := v
        simp only at d2 hvK
        clear hB hT4 hA4 d0 d1 df he4
        cases B with
        | true =>
          go_wp2_with fail
          go_ret
          refine ⟨ret_bool (by rw [← HB.out]; rfl), ns2, ?_, HHE.out, HA5.out⟩
          have e2 : ((atF F p).1, (atF F p).2 + freshF F (p ++ x :: u)) = (vw, vs) := by rw [atF_some HV.out]; unfold freshF; rw [← HB.out]; rfl
          rw [addF_cons, e2, setF_id HP.out]
          exact HT4.out
        | false =>
          go_wp2_with fail
          go_ret
          refine ⟨ret_bool (by rw [← HB.out]; rfl), ns2, ?_, HHE.out.setCell (p := ⟨(ns p).a, 2, none⟩) hb5 _, HA5.out⟩
          have e2 : ((atF F p).1, (atF F p).2 + freshF F (p ++ x :: u)) = (vw, vs + 1) := by rw [atF_some HV.out]; unfold freshF; rw [← HB.out]; rfl
          have h6 := HT4.out.setv HP.out (i := 2) (u := .int .i64 ((vs : Int) + 1)) (v' := (vw, vs + 1)) (by unfold trC; simp) (by show vs + 1 ≤ _; omega)
          rw [HA5.out p hps] at h6
          rw [addF_cons, e2]
          exact h6
      · have hkv : kidV F ns1 p x = some (.pointer (some ⟨(ns1 (p ++ [x])).a, 0, none⟩)) := by unfold kidV; rw [hk]; rfl
        have hlk : (Instr.lookup 95 (.map (some m)) (.int .i64 x) false).run Try.prog wx.drew = .ok (.pointer (some ⟨(ns1 (p ++ [x])).a, 0, none⟩)) wx.drew := by
          have h1 := (MapO.ext HMap.out.2 (Ext.drew wx)).get Try.underlying95 (zero_trie _) hwx
          rw [hkv] at h1
          exact h1
        refine wp_region_held_drew (S := fun w' => w'.cell? ⟨(ns p).a, 0, none⟩ = some (.map (some m)) ∧ w'.cell? ad = some (.int .i64 x) ∧ (Instr.lookup 95 (.map (some m)) (.int .i64 x) false).run Try.prog w' = .ok (.pointer (some ⟨(ns1 (p ++ [x])).a, 0, none⟩)) w') (by kernel_rfl) ⟨HC.out.1, HC.out.2, hlk⟩ (fun hHeld => ?_)
        refine wpAnyH_take (i := 0) (v := (.pointer (some ⟨(ns p).a, 0, none⟩))) rfl (by kernel_rfl) (by kernel_rfl) (by kernel_rfl) (fun _ _ _ h => h) (Or.inl ⟨by rfl, by (intro w hSw; obtain ⟨q1, q2, q3⟩ := hSw; go_simp)⟩) hHeld ?_
        try simp only [List.getElem_toArray, List.getElem_cons_zero, List.getElem_cons_succ, Act.put, List.setIfInBounds_toArray, List.set_cons_zero, List.set_cons_succ]
        refine wpAnyH_take (i := 1) (v := (.pointer (some ⟨(ns p).a, 0, none⟩))) rfl (by kernel_rfl) (by kernel_rfl) (by kernel_rfl) (fun _ _ _ h => h) (Or.inl ⟨by rfl, by (intro w hSw; obtain ⟨q1, q2, q3⟩ := hSw; go_simp)⟩) hHeld ?_
        try simp only [List.getElem_toArray, List.getElem_cons_zero, List.getElem_cons_succ, Act.put, List.setIfInBounds_toArray, List.set_cons_zero, List.set_cons_succ]
        refine wpAnyH_take (i := 2) (v := (.pointer (some ⟨(ns p).a, 0, none⟩))) rfl (by kernel_rfl) (by kernel_rfl) (by kernel_rfl) (fun _ _ _ h => h) (Or.inl ⟨by rfl, by (intro w hSw; obtain ⟨q1, q2, q3⟩ := hSw; go_simp)⟩) hHeld ?_
        try simp only [List.getElem_toArray, List.getElem_cons_zero, List.getElem_cons_succ, Act.put, List.setIfInBounds_toArray, List.set_cons_zero, List.set_cons_succ]
        refine wpAnyH_take (i := 3) (v := (.map (some m))) rfl (by kernel_rfl) (by kernel_rfl) (by kernel_rfl) (fun _ _ _ h => h) (Or.inl ⟨by rfl, by (intro w hSw; obtain ⟨q1, q2, q3⟩ := hSw; go_simp)⟩) hHeld ?_
        try simp only [List.getElem_toArray, List.getElem_cons_zero, List.getElem_cons_succ, Act.put, List.setIfInBounds_toArray, List.set_cons_zero, List.set_cons_succ]
        refine wpAnyH_take (i := 4) (v := (.slice (some ad) n c)) rfl (by kernel_rfl) (by kernel_rfl) (by kernel_rfl) (fun _ _ _ h => h) (Or.inl ⟨by rfl, by (intro w hSw; obtain ⟨q1, q2, q3⟩ := hSw; go_simp)⟩) hHeld ?_
        try simp only [List.getElem_toArray, List.getElem_cons_zero, List.getElem_cons_succ, Act.put, List.setIfInBounds_toArray, List.set_cons_zero, List.set_cons_succ]
        refine wpAnyH_take (i := 5) (v := (.pointer (some ad))) rfl (by kernel_rfl) (by kernel_rfl) (by kernel_rfl) (fun _ _ _ h => h) (Or.inl ⟨by rfl, by (intro w hSw; obtain ⟨q1, q2, q3⟩ := hSw; go_simp)⟩) hHeld ?_
        try simp only [List.getElem_toArray, List.getElem_cons_zero, List.getElem_cons_succ, Act.put, List.setIfInBounds_toArray, List.set_cons_zero, List.set_cons_succ]
        refine wpAnyH_take (i := 6) (v := (.int .i64 x)) rfl (by kernel_rfl) (by kernel_rfl) (by kernel_rfl) (fun _ _ _ h => h) (Or.inl ⟨by rfl, by (intro w hSw; obtain ⟨q1, q2, q3⟩ := hSw; go_simp)⟩) hHeld ?_
        try simp only [List.getElem_toArray, List.getElem_cons_zero, List.getElem_cons_succ, Act.put, List.setIfInBounds_toArray, List.set_cons_zero, List.set_cons_succ]
        refine wpAnyH_take (i := 7) (v := (.pointer (some ⟨(ns1 (p ++ [x])).a, 0, none⟩))) rfl (by kernel_rfl) (by kernel_rfl) (by kernel_rfl) (fun _ _ _ h => h) (Or.inl ⟨by rfl, by (intro w hSw; obtain ⟨q1, q2, q3⟩ := hSw; go_simp)⟩) hHeld ?_
        try simp only [List.getElem_toArray, List.getElem_cons_zero, List.getElem_cons_succ, Act.put, List.setIfInBounds_toArray, List.set_cons_zero, List.set_cons_succ]
        refine wpAnyH_take (i := 8) (v := (.pointer (some ⟨(ns1 (p ++ [x])).a, 0, none⟩))) rfl (by kernel_rfl) (by kernel_rfl) (by kernel_rfl) (fun _ _ _ h => h) (Or.inl ⟨by rfl, by (intro w hSw; obtain ⟨q1, q2, q3⟩ := hSw; go_simp)⟩) hHeld ?_
        try simp only [List.getElem_toArray, List.getElem_cons_zero, List.getElem_cons_succ, Act.put, List.setIfInBounds_toArray, List.set_cons_zero, List.set_cons_succ]
        refine wpAnyH_done (by kernel_rfl) ?_ _
        clear hlk hHeld
        have eF : kidF1 F p x = F := by unfold kidF1; rw [hk]; rfl
        have hT3 : TrIs wx.drew w0.heap.size K (kidF1 F p x) ns1 := by rw [eF]; exact HT.out.ext (Ext.drew wx)
        have hc := tput_ok u hT3 (p := p ++ [x]) (by rw [eF, hk]; rfl) HI.out HWU.out (by omega) HE.out.to_drew
        unfold TrN.ptr at hc
        clear hT3
        go_wp2_with fail
        refine hc.mono ?_
        rintro e w4 ⟨rfl, ns2, hT4, he4, hA4⟩
        have HT4 : Hid (TrIs w4 w0.heap.size (K + (u.length + 1) + 1) (addF (kidF1 F p x) (p ++ [x]) u) ns2) := Lib.hid (hT4.mono (by omega))
        have HP : Hid ((addF (kidF1 F p x) (p ++ [x]) u) p = some v) := Lib.hid (by unfold addF; rw [if_neg (fun h => not_pre_more p x h.1), kidF1_ne F p x (snoc_ne p x)]; exact HV.out)
        have HA5 : Hid (∀ q, (F q).isSome → (ns2 q).a = (ns q).a) := Lib.hid (fun q hq => by rw [hA4 q (by rw [eF]; exact hq), HA.out q])
        obtain ⟨d0, d1, d2, df⟩ := HT4.out.cells HP.out
        have f2 := df 2
        have hb5 := (HT4.out.node p v HP.out).1
        rw [HA5.out p hps] at d2 f2 hb5
        have hvK := (HT.out.node p v HV.out).2.2
        obtain ⟨B, hB⟩ : ∃ B, B = (atF (kidF1 F p x) (p ++ [x] ++ u)).1 := ⟨_, rfl⟩
        rw [← hB]
        have HB : Hid (B = (atF F (p ++ x :: u)).1) := Lib.hid (by rw [hB, atF_kid]; simp)
        have HHE := Lib.hid he4
        obtain ⟨vw, vs⟩ := v
        simp only at d2 hvK
        clear hB hT4 hA4 d0 d1 df he4
        cases B with
        | true =>
          go_wp2_with fail
          go_ret
          refine ⟨ret_bool (by rw [← HB.out]; rfl), ns2, ?_, HHE.out, HA5.out⟩
          have e2 : ((atF F p).1, (atF F p).2 + freshF F (p ++ x :: u)) = (vw, vs) := by rw [atF_some HV.out]; unfold freshF; rw [← HB.out]; rfl
          rw [addF_cons, e2, setF_id HP.out]
          exact HT4.out
        | false =>
          go_wp2_with fail
          go_ret
          refine ⟨ret_bool (by rw [← HB.out]; rfl), ns2, ?_, HHE.out.setCell (p := ⟨(ns p).a, 2, none⟩) hb5 _, HA5.out⟩
          have e2 : ((atF F p).1, (atF F p).2 + freshF F (p ++ x :: u)) = (vw, vs + 1) := by rw [atF_some HV.out]; unfold freshF; rw [← HB.out]; rfl
          have h6 := HT4.out.setv HP.out (i := 2) (u := .int .i64 ((vs : Int) + 1)) (v' := (vw, vs + 1)) (by unfold trC; simp) (by show vs + 1 ≤ _; omega)
          rw [HA5.out p hps] at h6
          rw [addF_cons, e2]
          exact h6

    · have HT := Lib.hid hT
      have HM := Lib.hid hm
      have HE := Lib.hid he
      have HA : Hid (∀ q, (ns q).a = (ns q).a) := Lib.hid (fun _ => rfl)
      obtain ⟨c0, c1, c2, cf⟩ := hT.cells hv
      rw [hm] at c0
      obtain ⟨wx, hwx⟩ : ∃ wx, wx = w := ⟨_, rfl⟩
      obtain ⟨ns1, hns1⟩ : ∃ ns1, ns1 = ns := ⟨_, rfl⟩
      clear hT cf c1 c2 hm hv he hp
      go_enter Try.func52, Try.ntmps52
      go_wp2_with fail
      have HA2 : Hid (∀ q, (ns1 q).a = (ns q).a) := Lib.hid (fun _ => by rw [hns1])
      clear HA
      have HA := HA2
      clear HA2
      rw [← hwx] at HE HT ⊢
      rw [← hns1] at HT HM
      clear hwx hns1 c0
      have HC : Hid (wx.drew.cell? ⟨(ns p).a, 0, none⟩ = some (.map (some m)) ∧ wx.drew.cell? ad = some (.int .i64 x)) := Lib.hid (by
        obtain ⟨d0, _⟩ := HT.out.cells HV.out
        rw [HM.out, HA.out] at d0
        exact ⟨d0, HE.out.cell ca0⟩)
      have hps : (F p).isSome := by rw [HV.out]; rfl
      have HMap := Lib.hid (HT.out.map HM.out hps)
      rcases hk : F (p ++ [x]) with _ | vk
      · have hlk : (Instr.lookup 95 (.map (some m)) (.int .i64 x) false).run Try.prog wx.drew = .ok (.pointer none) wx.drew := by
          have h1 := (MapO.ext HMap.out.2 (Ext.drew wx)).get Try.underlying95 (zero_trie _) hwx
          have h2 : kidV F ns1 p x = none := by unfold kidV; rw [hk]; rfl
          rw [h2] at h1
          exact h1
        refine wp_region_held_drew (S := fun w' => w'.cell? ⟨(ns p).a, 0, none⟩ = some (.map (some m)) ∧ w'.cell? ad = some (.int .i64 x) ∧ (Instr.lookup 95 (.map (some m)) (.int .i64 x) false).run Try.prog w' = .ok (.pointer none) w') (by kernel_rfl) ⟨HC.out.1, HC.out.2, hlk⟩ (fun hHeld => ?_)
        refine wpAnyH_take (i := 0) (v := (.pointer (some ⟨(ns p).a, 0, none⟩))) rfl (by kernel_rfl) (by kernel_rfl) (by kernel_rfl) (fun _ _ _ h => h) (Or.inl ⟨by rfl, by (intro w hSw; obtain ⟨q1, q2, q3⟩ := hSw; go_simp)⟩) hHeld ?_
        try simp only [List.getElem_toArray, List.getElem_cons_zero, List.getElem_cons_succ, Act.put, List.setIfInBounds_toArray, List.set_cons_zero, List.set_cons_succ]
        refine wpAnyH_take (i := 1) (v := (.pointer (some ⟨(ns p).a, 0, none⟩))) rfl (by kernel_rfl) (by kernel_rfl) (by kernel_rfl) (fun _ _ _ h => h) (Or.inl ⟨by rfl, by (intro w hSw; obtain ⟨q1, q2, q3⟩ := hSw; go_simp)⟩) hHeld ?_
        try simp only [List.getElem_toArray, List.getElem_cons_zero, List.getElem_cons_succ, Act.put, List.setIfInBounds_toArray, List.set_cons_zero, List.set_cons_succ]
        refine wpAnyH_take (i := 2) (v := (.pointer (some ⟨(ns p).a, 0, none⟩))) rfl (by kernel_rfl) (by kernel_rfl) (by kernel_rfl) (fun _ _ _ h => h) (Or.inl ⟨by rfl, by (intro w hSw; obtain ⟨q1, q2, q3⟩ := hSw; go_simp)⟩) hHeld ?_
        try simp only [List.getElem_toArray, List.getElem_cons_zero, List.getElem_cons_succ, Act.put, List.setIfInBounds_toArray, List.set_cons_zero, List.set_cons_succ]
        refine wpAnyH_take (i := 3) (v := (.map (some m))) rfl (by kernel_rfl) (by kernel_rfl) (by kernel_rfl) (fun _ _ _ h => h) (Or.inl ⟨by rfl, by (intro w hSw; obtain ⟨q1, q2, q3⟩ := hSw; go_simp)⟩) hHeld ?_
        try simp only [List.getElem_toArray, List.getElem_cons_zero, List.getElem_cons_succ, Act.put, List.setIfInBounds_toArray, List.set_cons_zero, List.set_cons_succ]
        refine wpAnyH_take (i := 4) (v := (.slice (some ad) n c)) rfl (by kernel_rfl) (by kernel_rfl) (by kernel_rfl) (fun _ _ _ h => h) (Or.inl ⟨by rfl, by (intro w hSw; obtain ⟨q1, q2, q3⟩ := hSw; go_simp)⟩) hHeld ?_
        try simp only [List.getElem_toArray, List.getElem_cons_zero, List.getElem_cons_succ, Act.put, List.setIfInBounds_toArray, List.set_cons_zero, List.set_cons_succ]
        refine wpAnyH_take (i := 5) (v := (.pointer (some ad))) rfl (by kernel_rfl) (by kernel_rfl) (by kernel_rfl) (fun _ _ _ h => h) (Or.inl ⟨by rfl, by (intro w hSw; obtain ⟨q1, q2, q3⟩ := hSw; go_simp)⟩) hHeld ?_
        try simp only [List.getElem_toArray, List.getElem_cons_zero, List.getElem_cons_succ, Act.put, List.setIfInBounds_toArray, List.set_cons_zero, List.set_cons_succ]
        refine wpAnyH_take (i := 6) (v := (.int .i64 x)) rfl (by kernel_rfl) (by kernel_rfl) (by kernel_rfl) (fun _ _ _ h => h) (Or.inl ⟨by rfl, by (intro w hSw; obtain ⟨q1, q2, q3⟩ := hSw; go_simp)⟩) hHeld ?_
        try simp only [List.getElem_toArray, List.getElem_cons_zero, List.getElem_cons_succ, Act.put, List.setIfInBounds_toArray, List.set_cons_zero, List.set_cons_succ]
        refine wpAnyH_take (i := 7) (v := (.pointer none)) rfl (by kernel_rfl) (by kernel_rfl) (by kernel_rfl) (fun _ _ _ h => h) (Or.inl ⟨by rfl, by (intro w hSw; obtain ⟨q1, q2, q3⟩ := hSw; go_simp)⟩) hHeld ?_
        try simp only [List.getElem_toArray, List.getElem_cons_zero, List.getElem_cons_succ, Act.put, List.setIfInBounds_toArray, List.set_cons_zero, List.set_cons_succ]
        refine wpAnyH_take (i := 8) (v := (.pointer none)) rfl (by kernel_rfl) (by kernel_rfl) (by kernel_rfl) (fun _ _ _ h => h) (Or.inl ⟨by rfl, by (intro w hSw; obtain ⟨q1, q2, q3⟩ := hSw; go_simp)⟩) hHeld ?_
        try simp only [List.getElem_toArray, List.getElem_cons_zero, List.getElem_cons_succ, Act.put, List.setIfInBounds_toArray, List.set_cons_zero, List.set_cons_succ]
        refine wpAnyH_done (by kernel_rfl) ?_ _
        clear hlk hHeld
        go_wp2_with fail
        have hxa : Ext wx (wx.alloc (.cells #[.map none, .bool false, .int .i64 0] 97)).drew := (Ext.alloc wx _).to_drew
        have HMW : Hid (MapO (wx.alloc (.cells #[.map none, .bool false, .int .i64 0] 97)).drew.drew m K (kidV F ns1 p)) := Lib.hid (MapO.ext HMap.out.2 hxa.to_drew)
        have HC2 : Hid ((wx.alloc (.cells #[.map none, .bool false, .int .i64 0] 97)).drew.drew.cell? ⟨(ns p).a, 0, none⟩ = some (.map (some m)) ∧ (wx.alloc (.cells #[.map none, .bool false, .int .i64 0] 97)).drew.drew.cell? ad = some (.int .i64 x)) := Lib.hid ⟨hxa.cell HC.out.1, hxa.cell HC.out.2⟩
        refine wp_region_held_drew (S := fun w' => w'.cell? ⟨(ns p).a, 0, none⟩ = some (.map (some m)) ∧ w'.cell? ad = some (.int .i64 x)) (by kernel_rfl) HC2.out (fun hHeld => ?_)
        refine wpAnyH_take (i := 0) (v := (.pointer (some ⟨(ns p).a, 0, none⟩))) rfl (by kernel_rfl) (by kernel_rfl) (by kernel_rfl) (fun _ _ _ h => h) (Or.inl ⟨by rfl, by (intro w hSw; obtain ⟨q1, q2⟩ := hSw; go_simp)⟩) hHeld ?_
        try simp only [List.getElem_toArray, List.getElem_cons_zero, List.getElem_cons_succ, Act.put, List.setIfInBounds_toArray, List.set_cons_zero, List.set_cons_succ]
        refine wpAnyH_take (i := 1) (v := (.pointer (some ⟨(ns p).a, 0, none⟩))) rfl (by kernel_rfl) (by kernel_rfl) (by kernel_rfl) (fun _ _ _ h => h) (Or.inl ⟨by rfl, by (intro w hSw; obtain ⟨q1, q2⟩ := hSw; go_simp)⟩) hHeld ?_
        try simp only [List.getElem_toArray, List.getElem_cons_zero, List.getElem_cons_succ, Act.put, List.setIfInBounds_toArray, List.set_cons_zero, List.set_cons_succ]
        refine wpAnyH_take (i := 2) (v := (.pointer (some ⟨(ns p).a, 0, none⟩))) rfl (by kernel_rfl) (by kernel_rfl) (by kernel_rfl) (fun _ _ _ h => h) (Or.inl ⟨by rfl, by (intro w hSw; obtain ⟨q1, q2⟩ := hSw; go_simp)⟩) hHeld ?_
        try simp only [List.getElem_toArray, List.getElem_cons_zero, List.getElem_cons_succ, Act.put, List.setIfInBounds_toArray, List.set_cons_zero, List.set_cons_succ]
        refine wpAnyH_take (i := 3) (v := (.map (some m))) rfl (by kernel_rfl) (by kernel_rfl) (by kernel_rfl) (fun _ _ _ h => h) (Or.inl ⟨by rfl, by (intro w hSw; obtain ⟨q1, q2⟩ := hSw; go_simp)⟩) hHeld ?_
        try simp only [List.getElem_toArray, List.getElem_cons_zero, List.getElem_cons_succ, Act.put, List.setIfInBounds_toArray, List.set_cons_zero, List.set_cons_succ]
        refine wpAnyH_take (i := 4) (v := (.slice (some ad) n c)) rfl (by kernel_rfl) (by kernel_rfl) (by kernel_rfl) (fun _ _ _ h => h) (Or.inl ⟨by rfl, by (intro w hSw; obtain ⟨q1, q2⟩ := hSw; go_simp)⟩) hHeld ?_
        try simp only [List.getElem_toArray, List.getElem_cons_zero, List.getElem_cons_succ, Act.put, List.setIfInBounds_toArray, List.set_cons_zero, List.set_cons_succ]
        refine wpAnyH_take (i := 5) (v := (.pointer (some ad))) rfl (by kernel_rfl) (by kernel_rfl) (by kernel_rfl) (fun _ _ _ h => h) (Or.inl ⟨by rfl, by (intro w hSw; obtain ⟨q1, q2⟩ := hSw; go_simp)⟩) hHeld ?_
        try simp only [List.getElem_toArray, List.getElem_cons_zero, List.getElem_cons_succ, Act.put, List.setIfInBounds_toArray, List.set_cons_zero, List.set_cons_succ]
        refine wpAnyH_take (i := 6) (v := (.int .i64 x)) rfl (by kernel_rfl) (by kernel_rfl) (by kernel_rfl) (fun _ _ _ h => h) (Or.inl ⟨by rfl, by (intro w hSw; obtain ⟨q1, q2⟩ := hSw; go_simp)⟩) hHeld ?_
        try simp only [List.getElem_toArray, List.getElem_cons_zero, List.getElem_cons_succ, Act.put, List.setIfInBounds_toArray, List.set_cons_zero, List.set_cons_succ]
        refine wpAnyH_take (i := 7) (v := (.pointer (some ⟨wx.heap.size, 0, none⟩))) rfl (by kernel_rfl) (by kernel_rfl) (by kernel_rfl) (fun _ _ _ h => h) (Or.inl ⟨by rfl, by (intro w hSw; obtain ⟨q1, q2⟩ := hSw; go_simp)⟩) hHeld ?_
        try simp only [List.getElem_toArray, List.getElem_cons_zero, List.getElem_cons_succ, Act.put, List.setIfInBounds_toArray, List.set_cons_zero, List.set_cons_succ]
        refine wpAnyH_ready (rs := [8]) (by kernel_rfl) (by simp) ?_
        refine AllReadyH.cons rfl (fun K hK => ?_) AllReadyH.nil
        refine step_put_o rfl (.tmp 52) (.tmp 55) (.tmp 56) 95 58 rfl Try.underlying95 rfl HMW.out (by unfold maxLen; omega) x (.pointer (some ⟨wx.heap.size, 0, none⟩)) rfl hwx rfl ?_
        intro w3 k1 k2
        have hS3 := cells_turned HMW.out k2 HC2.out.1 HC2.out.2
        refine hK.out _ _ hS3 (fun hHeld2 => ?_)
        clear hK K hHeld
        try simp only [List.getElem_toArray, List.getElem_cons_zero, List.getElem_cons_succ, Act.put, List.setIfInBounds_toArray, List.set_cons_zero, List.set_cons_succ]
        refine wpAnyH_done (by kernel_rfl) ?_ _
        have hT3 := HT.out.addK (w1 := (wx.alloc (.cells #[.map none, .bool false, .int .i64 0] 97))) hps HM.out hk HE.out.hsize rfl k1 ⟨k2.os, k2.tape, k2.output, k2.size, k2.block⟩
        have eF : kidF1 F p x = setF F (p ++ [x]) (false, 0) := by unfold kidF1; rw [hk]; rfl
        rw [← eF] at hT3
        have he3 : Ext w0 w3 := Below.grown (HE.out.trans hxa.to_drew) k2 (HE.out.trans hxa.to_drew).hsize (fun j hj => by injection hj with hj; have := HMap.out.1; omega)
        have hc := tput_ok u hT3 (p := p ++ [x]) (by rw [eF, setF_same]; rfl) HI.out HWU.out (by omega) he3
        rw [nsK_same] at hc
        unfold TrN.ptr at hc
        clear hT3 k1 k2 he3 hS3 hxa eF
        go_wp2_with fail
        refine hc.mono ?_
        rintro e w4 ⟨rfl, ns2, hT4, he4, hA4⟩
        have HT4 : Hid (TrIs w4 w0.heap.size (K + (u.length + 1) + 1) (addF (kidF1 F p x) (p ++ [x]) u) ns2) := Lib.hid (hT4.mono (by omega))
        have HP : Hid ((addF (kidF1 F p x) (p ++ [x]) u) p = some v) := Lib.hid (by unfold addF; rw [if_neg (fun h => not_pre_more p x h.1), kidF1_ne F p x (snoc_ne p x)]; exact HV.out)
        have HA5 : Hid (∀ q, (F q).isSome → (ns2 q).a = (ns q).a) := Lib.hid (fun q hq => by
          have hne : q ≠ p ++ [x] := fun e => by rw [e, hk] at hq; cases hq
          rw [hA4 q (by rw [kidF1_ne F p x hne]; exact hq), nsK_other ns1 _ hne, HA.out q])
        obtain ⟨d0, d1, d2, df⟩ := HT4.out.cells HP.out
        have f2 := df 2
        have hb5 := (HT4.out.node p v HP.out).1
        rw [HA5.out p hps] at d2 f2 hb5
        have hvK := (HT.out.node p v HV.out).2.2
        obtain ⟨B, hB⟩ : ∃ B, B = (atF (kidF1 F p x) (p ++ [x] ++ u)).1 := ⟨_, rfl⟩
        rw [← hB]
        have HB : Hid (B = (atF F (p ++ x :: u)).1) := Lib.hid (by rw [hB, atF_kid]; simp)
        have HHE := Lib.hid he4
        obtain ⟨vw, vs⟩ := v
        simp only at d2 hvK
        clear hB hT4 hA4 d0 d1 df he4
        cases B with
        | true =>
          go_wp2_with fail
          go_ret
          refine ⟨ret_bool (by rw [← HB.out]; rfl), ns2, ?_, HHE.out, HA5.out⟩
          have e2 : ((atF F p).1, (atF F p).2 + freshF F (p ++ x :: u)) = (vw, vs) := by rw [atF_some HV.out]; unfold freshF; rw [← HB.out]; rfl
          rw [addF_cons, e2, setF_id HP.out]
          exact HT4.out
        | false =>
          go_wp2_with fail
          go_ret
          refine ⟨ret_bool (by rw [← HB.out]; rfl), ns2, ?_, HHE.out.setCell (p := ⟨(ns p).a, 2, none⟩) hb5 _, HA5.out⟩
          have e2 : ((atF F p).1, (atF F p).2 + freshF F (p ++ x :: u)) = (vw, vs + 1) := by rw [atF_some HV.out]; unfold freshF; rw [← HB.out]; rfl
          have h6 := HT4.out.setv HP.out (i := 2) (u := .int .i64 ((vs : Int) + 1)) (v' := (vw, vs + 1)) (by unfold trC; simp) (by show vs + 1 ≤ _; omega)
          rw [HA5.out p hps] at h6
          rw [addF_cons, e2]
          exact h6
      · have hkv : kidV F ns1 p x = some (.pointer (some ⟨(ns1 (p ++ [x])).a, 0, none⟩)) := by unfold kidV; rw [hk]; rfl
        have hlk : (Instr.lookup 95 (.map (some m)) (.int .i64 x) false).run Try.prog wx.drew = .ok (.pointer (some ⟨(ns1 (p ++ [x])).a, 0, none⟩)) wx.drew := by
          have h1 := (MapO.ext HMap.out.2 (Ext.drew wx)).get Try.underlying95 (zero_trie _) hwx
          rw [hkv] at h1
          exact h1
        refine wp_region_held_drew (S := fun w' => w'.cell? ⟨(ns p).a, 0, none⟩ = some (.map (some m)) ∧ w'.cell? ad = some (.int .i64 x) ∧ (Instr.lookup 95 (.map (some m)) (.int .i64 x) false).run Try.prog w' = .ok (.pointer (some ⟨(ns1 (p ++ [x])).a, 0, none⟩)) w') (by kernel_rfl) ⟨HC.out.1, HC.out.2, hlk⟩ (fun hHeld => ?_)
        refine wpAnyH_take (i := 0) (v := (.pointer (some ⟨(ns p).a, 0, none⟩))) rfl (by kernel_rfl) (by kernel_rfl) (by kernel_rfl) (fun _ _ _ h => h) (Or.inl ⟨by rfl, by (intro w hSw; obtain ⟨q1, q2, q3⟩ := hSw; go_simp)⟩) hHeld ?_
        try simp only [List.getElem_toArray, List.getElem_cons_zero, List.getElem_cons_succ, Act.put, List.setIfInBounds_toArray, List.set_cons_zero, List.set_cons_succ]
        refine wpAnyH_take (i := 1) (v := (.pointer (some ⟨(ns p).a, 0, none⟩))) rfl (by kernel_rfl) (by kernel_rfl) (by kernel_rfl) (fun _ _ _ h => h) (Or.inl ⟨by rfl, by (intro w hSw; obtain ⟨q1, q2, q3⟩ := hSw; go_simp)⟩) hHeld ?_
        try simp only [List.getElem_toArray, List.getElem_cons_zero, List.getElem_cons_succ, Act.put, List.setIfInBounds_toArray, List.set_cons_zero, List.set_cons_succ]
        refine wpAnyH_take (i := 2) (v := (.pointer (some ⟨(ns p).a, 0, none⟩))) rfl (by kernel_rfl) (by kernel_rfl) (by kernel_rfl) (fun _ _ _ h => h) (Or.inl ⟨by rfl, by (intro w hSw; obtain ⟨q1, q2, q3⟩ := hSw; go_simp)⟩) hHeld ?_
        try simp only [List.getElem_toArray, List.getElem_cons_zero, List.getElem_cons_succ, Act.put, List.setIfInBounds_toArray, List.set_cons_zero, List.set_cons_succ]
        refine wpAnyH_take (i := 3) (v := (.map (some m))) rfl (by kernel_rfl) (by kernel_rfl) (by kernel_rfl) (fun _ _ _ h => h) (Or.inl ⟨by rfl, by (intro w hSw; obtain ⟨q1, q2, q3⟩ := hSw; go_simp)⟩) hHeld ?_
        try simp only [List.getElem_toArray, List.getElem_cons_zero, List.getElem_cons_succ, Act.put, List.setIfInBounds_toArray, List.set_cons_zero, List.set_cons_succ]
        refine wpAnyH_take (i := 4) (v := (.slice (some ad) n c)) rfl (by kernel_rfl) (by kernel_rfl) (by kernel_rfl) (fun _ _ _ h => h) (Or.inl ⟨by rfl, by (intro w hSw; obtain ⟨q1, q2, q3⟩ := hSw; go_simp)⟩) hHeld ?_
        try simp only [List.getElem_toArray, List.getElem_cons_zero, List.getElem_cons_succ, Act.put, List.setIfInBounds_toArray, List.set_cons_zero, List.set_cons_succ]
        refine wpAnyH_take (i := 5) (v := (.pointer (some ad))) rfl (by kernel_rfl) (by kernel_rfl) (by kernel_rfl) (fun _ _ _ h => h) (Or.inl ⟨by rfl, by (intro w hSw; obtain ⟨q1, q2, q3⟩ := hSw; go_simp)⟩) hHeld ?_
        try simp only [List.getElem_toArray, List.getElem_cons_zero, List.getElem_cons_succ, Act.put, List.setIfInBounds_toArray, List.set_cons_zero, List.set_cons_succ]
        refine wpAnyH_take (i := 6) (v := (.int .i64 x)) rfl (by kernel_rfl) (by kernel_rfl) (by kernel_rfl) (fun _ _ _ h => h) (Or.inl ⟨by rfl, by (intro w hSw; obtain ⟨q1, q2, q3⟩ := hSw; go_simp)⟩) hHeld ?_
        try simp only [List.getElem_toArray, List.getElem_cons_zero, List.getElem_cons_succ, Act.put, List.setIfInBounds_toArray, List.set_cons_zero, List.set_cons_succ]
        refine wpAnyH_take (i := 7) (v := (.pointer (some ⟨(ns1 (p ++ [x])).a, 0, none⟩))) rfl (by kernel_rfl) (by kernel_rfl) (by kernel_rfl) (fun _ _ _ h => h) (Or.inl ⟨by rfl, by (intro w hSw; obtain ⟨q1, q2, q3⟩ := hSw; go_simp)⟩) hHeld ?_
        try simp only [List.getElem_toArray, List.getElem_cons_zero, List.getElem_cons_succ, Act.put, List.setIfInBounds_toArray, List.set_cons_zero, List.set_cons_succ]
        refine wpAnyH_take (i := 8) (v := (.pointer (some ⟨(ns1 (p ++ [x])).a, 0, none⟩))) rfl (by kernel_rfl) (by kernel_rfl) (by kernel_rfl) (fun _ _ _ h => h) (Or.inl ⟨by rfl, by (intro w hSw; obtain ⟨q1, q2, q3⟩ := hSw; go_simp)⟩) hHeld ?_
        try simp only [List.getElem_toArray, List.getElem_cons_zero, List.getElem_cons_succ, Act.put, List.setIfInBounds_toArray, List.set_cons_zero, List.set_cons_succ]
        refine wpAnyH_done (by kernel_rfl) ?_ _
        clear hlk hHeld
        have eF : kidF1 F p x = F := by unfold kidF1; rw [hk]; rfl
        have hT3 : TrIs wx.drew w0.heap.size K (kidF1 F p x) ns1 := by rw [eF]; exact HT.out.ext (Ext.drew wx)
        have hc := tput_ok u hT3 (p := p ++ [x]) (by rw [eF, hk]; rfl) HI.out HWU.out (by omega) HE.out.to_drew
        unfold TrN.ptr at hc
        clear hT3
        go_wp2_with fail
        refine hc.mono ?_
        rintro e w4 ⟨rfl, ns2, hT4, he4, hA4⟩
        have HT4 : Hid (TrIs w4 w0.heap.size (K + (u.length + 1) + 1) (addF (kidF1 F p x) (p ++ [x]) u) ns2) := Lib.hid (hT4.mono (by omega))
        have HP : Hid ((addF (kidF1 F p x) (p ++ [x]) u) p = some v) := Lib.hid (by unfold addF; rw [if_neg (fun h => not_pre_more p x h.1), kidF1_ne F p x (snoc_ne p x)]; exact HV.out)
        have HA5 : Hid (∀ q, (F q).isSome → (ns2 q).a = (ns q).a) := Lib.hid (fun q hq => by rw [hA4 q (by rw [eF]; exact hq), HA.out q])
        obtain ⟨d0, d1, d2, df⟩ := HT4.out.cells HP.out
        have f2 := df 2
        have hb5 := (HT4.out.node p v HP.out).1
        rw [HA5.out p hps] at d2 f2 hb5
        have hvK := (HT.out.node p v HV.out).2.2
        obtain ⟨B, hB⟩ : ∃ B, B = (atF (kidF1 F p x) (p ++ [x] ++ u)).1 := ⟨_, rfl⟩
        rw [← hB]
        have HB : Hid (B = (atF F (p ++ x :: u)).1) := Lib.hid (by rw [hB, atF_kid]; simp)
        have HHE := Lib.hid he4
        obtain ⟨vw, vs⟩ := v
        simp only at d2 hvK
        clear hB hT4 hA4 d0 d1 df he4
        cases B with
        | true =>
          go_wp2_with fail
          go_ret
          refine ⟨ret_bool (by rw [← HB.out]; rfl), ns2, ?_, HHE.out, HA5.out⟩
          have e2 : ((atF F p).1, (atF F p).2 + freshF F (p ++ x :: u)) = (vw, vs) := by rw [atF_some HV.out]; unfold freshF; rw [← HB.out]; rfl
          rw [addF_cons, e2, setF_id HP.out]
          exact HT4.out
        | false =>
          go_wp2_with fail
          go_ret
          refine ⟨ret_bool (by rw [← HB.out]; rfl), ns2, ?_, HHE.out.setCell (p := ⟨(ns p).a, 2, none⟩) hb5 _, HA5.out⟩
          have e2 : ((atF F p).1, (atF F p).2 + freshF F (p ++ x :: u)) = (vw, vs + 1) := by rw [atF_some HV.out]; unfold freshF; rw [← HB.out]; rfl
          have h6 := HT4.out.setv HP.out (i := 2) (u := .int .i64 ((vs : Int) + 1)) (v' := (vw, vs + 1)) (by unfold trC; simp) (by show vs + 1 ≤ _; omega)
          rw [HA5.out p hps] at h6
          rw [addF_cons, e2]
          exact h6

end Go.Proofs.Ytdkjkcegchohfaa
