/-
  The tree in memory, and put.
-/
import Derived.Test.YtdkjkcegchohfaaNbM
import Derived.Test.YtdkjkcegchohfaaMapO
namespace Go.Proofs.Ytdkjkcegchohfaa
open Go.RowKit
set_option linter.unusedVariables false
set_option linter.unusedSimpArgs false
attribute [local go_sem] Oper.semAt_some

/-- Where a node lies: its block, its map, its word's row. -/
structure BkN where
  a : Nat
  m : Nat
  A : Option Addr
  n : Nat
  c : Nat
def BkN.ptr (x : BkN) : Value := .pointer (some ⟨x.a, 0, none⟩)
/-- What a node's map reads as. -/
def kidF (t : BK) (ns : Nat → BkN) (i : Nat) (d : Int) : Option Value := (t.kid i d).map fun j => (ns j).ptr
def NodeAt (w : World) (b0 : Nat) (t : BK) (ns : Nat → BkN) (i : Nat) : Prop :=
  b0 ≤ (ns i).m ∧ Blk w (ns i).a 86 #[.slice (ns i).A (ns i).n (ns i).c, .int .i64 i, .map (some (ns i).m)] ∧ Ints w (ns i).A (ns i).n (ns i).c (t.W i) ∧ MapO w (ns i).m t.ws.length (kidF t ns i)
structure BkIs (w : World) (b0 : Nat) (t : BK) (ns : Nat → BkN) : Prop where
  pos : 0 < t.ws.length
  max : t.ws.length ≤ 100
  len : ∀ i, i < t.ws.length → (ns i).n ≤ 24
  node : ∀ i, i < t.ws.length → NodeAt w b0 t ns i
  inj : ∀ i j, i < t.ws.length → j < t.ws.length → (ns i).m = (ns j).m → i = j

/-- What is no map stays where a map is turned. -/
theorem cell_grown {w w' : World} {b : Nat} {es : Array MapEntry} {clock : Nat} (hb : w.heap[b]? = some (.map es clock)) (hg : w.grownBy w' (some b)) {p : Addr} {u : Value} (h : w.cell? p = some u) : w'.cell? p = some u := by
  have hlt : p.block < w.heap.size := by
    unfold World.cell? at h
    rcases Nat.lt_or_ge p.block w.heap.size with k | k
    · exact k
    · rw [Array.getElem?_eq_none k] at h; cases h
  have hne : some p.block ≠ some b := by
    intro e
    injection e with e
    unfold World.cell? at h
    rw [e, hb] at h
    cases h
  have e := hg.block p.block hlt hne
  unfold World.cell? at h ⊢
  rw [e]
  exact h
theorem Blk.mapgrown {w w' : World} {b g t : Nat} {cs : Array Value} {es : Array MapEntry} {clock : Nat} (h : Blk w g t cs) (hb : w.heap[b]? = some (.map es clock)) (hg : w.grownBy w' (some b)) : Blk w' g t cs :=
  h.grown hg (fun e => by injection e with e; subst e; unfold Blk at h; rw [hb] at h; cases h)

theorem BkIs.ext {w w' : World} {b0 : Nat} {t : BK} {ns : Nat → BkN} (h : BkIs w b0 t ns) (he : Ext w w') : BkIs w' b0 t ns :=
  ⟨h.pos, h.max, h.len, fun i hi => by obtain ⟨h0, h1, h2, h3⟩ := h.node i hi; exact ⟨h0, h1.ext he, h2.ext he, h3.ext he⟩, h.inj⟩

/-- One more node. -/
def nsAdd (ns : Nat → BkN) (N : Nat) (x : BkN) : Nat → BkN := fun j => if j = N then x else ns j
theorem nsAdd_old {ns : Nat → BkN} {N : Nat} {x : BkN} {j : Nat} (h : j ≠ N) : nsAdd ns N x j = ns j := if_neg h
theorem nsAdd_new {ns : Nat → BkN} {N : Nat} {x : BkN} : nsAdd ns N x N = x := if_pos rfl

theorem BkIs.add {w w' : World} {b0 : Nat} {t : BK} {ns : Nat → BkN} {p : Nat} {W : List Int} {x : BkN} (ho : t.Ok) (h : BkIs w b0 t ns) (hp : p < t.ws.length) (hf : t.kid p (dist (t.W p) W) = none) (hm : t.ws.length < 100)
    (hx0 : ∀ i, i < t.ws.length → (ns i).m ≠ x.m) (hxb : b0 ≤ x.m) (hx1 : Blk w' x.a 86 #[.slice x.A x.n x.c, .int .i64 t.ws.length, .map (some x.m)]) (hx2 : Ints w' x.A x.n x.c W) (hx3 : MapO w' x.m 0 (fun _ => none)) (hn : x.n ≤ 24)
    (hmp : MapO w' (ns p).m (t.ws.length + 1) (updO (kidF t ns p) (dist (t.W p) W) x.ptr)) (hg : w.grownBy w' (some (ns p).m)) :
    BkIs w' b0 (t.add p W) (nsAdd ns t.ws.length x) := by
  have hl : (t.add p W).ws.length = t.ws.length + 1 := by simp [BK.add]
  obtain ⟨es, clock, hbm⟩ := (h.node p hp).2.2.2.block
  have hkold : ∀ i, i ≠ p → i < t.ws.length → kidF (t.add p W) (nsAdd ns t.ws.length x) i = kidF t ns i := fun i hi hil => by
    funext d
    unfold kidF
    have e : (t.add p W).kid i d = t.kid i d := by simp only [BK.add]; rw [if_neg (fun e => hi e.1)]
    rw [e]
    cases hk : t.kid i d with
    | none => rfl
    | some j => simp only [Option.map_some]; rw [nsAdd_old (by have := (ho.up _ _ _ hk).2; omega)]
  refine ⟨by omega, by omega, fun i hi => ?_, fun i hi => ?_, fun i j hi hj e => ?_⟩
  · by_cases e : i = t.ws.length
    · rw [e, nsAdd_new]; exact hn
    · rw [nsAdd_old e]; exact h.len i (by omega)
  · unfold NodeAt
    by_cases e : i = t.ws.length
    · subst e
      rw [nsAdd_new, BK.add_W_new, hl]
      refine ⟨hxb, hx1, hx2, ?_⟩
      have e0 : kidF (t.add p W) (nsAdd ns t.ws.length x) t.ws.length = fun _ => none := by
        funext d
        unfold kidF
        have : (t.add p W).kid t.ws.length d = none := by
          cases hk : (t.add p W).kid t.ws.length d with
          | none => rfl
          | some j =>
            rcases BK.add_kid hk with ⟨e, _, _⟩ | hk
            · omega
            · have := ho.up _ _ _ hk; omega
        rw [this]; rfl
      rw [e0]
      exact hx3.mono (by omega)
    · have hi' : i < t.ws.length := by omega
      obtain ⟨h0, h1, h2, h3⟩ := h.node i hi'
      rw [nsAdd_old e, BK.add_W_old hi', hl]
      refine ⟨h0, h1.mapgrown hbm hg, Rd.keep h2 (fun _ _ hc => cell_grown hbm hg hc), ?_⟩
      by_cases ep : i = p
      · subst ep
        have e0 : kidF (t.add i W) (nsAdd ns t.ws.length x) i = updO (kidF t ns i) (dist (t.W i) W) x.ptr := by
          funext d
          unfold kidF updO
          by_cases ed : d = (dist (t.W i) W : Int)
          · subst ed
            rw [if_pos rfl]
            have : (t.add i W).kid i (dist (t.W i) W) = some t.ws.length := by simp [BK.add]
            rw [this]
            simp only [Option.map_some]
            rw [nsAdd_new]
          · rw [if_neg ed]
            have : (t.add i W).kid i d = t.kid i d := by simp only [BK.add]; rw [if_neg (fun e => ed e.2)]
            show _ = Option.map (fun j => (ns j).ptr) (t.kid i d)
            rw [this]
            cases hk : t.kid i d with
            | none => rfl
            | some j => simp only [Option.map_some]; rw [nsAdd_old (by have := (ho.up _ _ _ hk).2; omega)]
        rw [e0]
        exact hmp
      · rw [hkold i ep hi']
        exact (h3.grown hg (fun e => ep (by injection e with e; exact h.inj i p hi' hp e))).mono (by omega)
  · by_cases e1 : i = t.ws.length
    · by_cases e2 : j = t.ws.length
      · omega
      · subst e1
        rw [nsAdd_new, nsAdd_old e2] at e
        exact absurd e.symm (hx0 j (by omega))
    · by_cases e2 : j = t.ws.length
      · subst e2
        rw [nsAdd_new, nsAdd_old e1] at e
        exact absurd e (hx0 i (by omega))
      · rw [nsAdd_old e1, nsAdd_old e2] at e
        exact h.inj i j (by omega) (by omega) e

theorem zero_tree (w : World) : (zeroValue 42).run Try.prog w = .ok (.pointer none) w := by kernel_rfl

set_option maxRecDepth 20000 in
set_option maxHeartbeats 1000000 in
theorem put_ok : ∀ (f : Nat) {t : BK} {ns : Nat → BkN} {i n c : Nat} {A : Option Addr} {W : List Int} {w0 w : World}, t.ws.length - i ≤ f → i < t.ws.length → t.Ok → BkIs w w0.heap.size t ns → Ints w A n c W → n ≤ 24 → t.ws.length < 100 → Ext w0 w →
    Calls Try.prog 45 #[(ns i).ptr, .slice A n c, .int .i64 t.ws.length] w fun e w' => e = .returned (.tuple #[]) ∧ ∃ p x, PutW W t i p ∧ BkIs w' w0.heap.size (t.add p W) (nsAdd ns t.ws.length x) ∧ Ext w0 w'
  | 0, t, ns, i, n, c, A, W, w0, w, hf, hi, ho, hb, hW, hn, hm, he => absurd hi (by omega)
  | f + 1, t, ns, i, n, c, A, W, w0, w, hf, hi, ho, hb, hW, hn, hm, he => by
    obtain ⟨n0, n1, n2, n3⟩ := hb.node i hi
    have c0 : w.cell? ⟨(ns i).a, 0, none⟩ = some (.slice (ns i).A (ns i).n (ns i).c) := by rw [n1.cell 0]; rfl
    have hil := hb.len i hi
    have HB := Lib.hid hb
    have HW := Lib.hid hW
    have HO := Lib.hid ho
    have HF := Lib.hid hf
    have hz2 : dist (t.W i) W ≤ 24 := dist_le (by rw [n2.len]; exact hil) (by rw [hW.len]; exact hn)
    have hkw : (Lit.int .i64 (dist (t.W i) W : Int)).wf = true := wf_i64' (by omega) (by omega)
    clear hf ho hb hW
    unfold BkN.ptr
    have hmm := @run_makeMap Try.prog
    go_enter Try.func45, Try.ntmps45
    go_wp2_with fail
    refine (nearFar_ok n2 HW.out (by omega) (by omega)).mono ?_
    rintro e w1 ⟨rfl, he1⟩
    have c2 : w1.cell? ⟨(ns i).a, 2, none⟩ = some (.map (some (ns i).m)) := by rw [(n1.ext he1).cell 2]; rfl
    have m1 := n3.ext he1
    cases hk : t.kid i (dist (t.W i) W) with
    | none =>
      have hv : (kidF t ns i (dist (t.W i) W)).getD (.pointer none) = .pointer none := by unfold kidF; rw [hk]; rfl
      have m2 : MapO ((w1.alloc (.map #[] 0)).alloc (.cells #[.slice A n c, .int .i64 t.ws.length, .map (some w1.heap.size)] 86)) (ns i).m t.ws.length (kidF t ns i) := (m1.ext (Ext.alloc _ _)).ext (Ext.alloc _ _)
      have hmx : t.ws.length < maxLen := by unfold maxLen; omega
      go_wp2_with (first | (at_lookup; refine wpList_get_o _ rfl _ _ _ _ rfl Try.underlying84 rfl m1 (dist (t.W i) W) (.pointer none) rfl hkw (zero_tree _) ?_; rw [hv]) | (at_mapUpdate; refine wpList_put_o _ rfl _ _ _ _ _ rfl Try.underlying84 rfl m2 hmx (dist (t.W i) W) _ rfl hkw rfl ?_; intro w2 k1 k2))
      go_frame
      refine bodyPost_ret (results_none rfl _ _ _) rfl ?_
      refine ⟨rfl, i, ⟨w1.heap.size + 1, w1.heap.size, A, n, c⟩, PutW.here hk, ?_, ?_⟩
      · have hlt : ∀ j, j < t.ws.length → (ns j).m < w1.heap.size := fun j hj => Nat.lt_of_lt_of_le (HB.out.node j hj).2.2.2.lt he1.hsize
        have hsz : ((w1.alloc (.map #[] 0)).alloc (.cells #[.slice A n c, .int .i64 t.ws.length, .map (some w1.heap.size)] 86)).heap.size = w1.heap.size + 2 := by simp
        have eA := (Ext.alloc w1 (.map #[] 0))
        have eB := (Ext.alloc (w1.alloc (.map #[] 0)) (.cells #[.slice A n c, .int .i64 t.ws.length, .map (some w1.heap.size)] 86))
        have hb2 := (HB.out.ext he1).ext (eA.trans eB)
        obtain ⟨es, clock, hbm⟩ := m2.block
        have b1 : Blk ((w1.alloc (.map #[] 0)).alloc (.cells #[.slice A n c, .int .i64 t.ws.length, .map (some w1.heap.size)] 86)) (w1.heap.size + 1) 86 #[.slice A n c, .int .i64 t.ws.length, .map (some w1.heap.size)] := by
          have := Blk.new (w1.alloc (.map #[] 0)) 86 #[.slice A n c, .int .i64 t.ws.length, .map (some w1.heap.size)]
          simpa using this
        have i2 := ((HW.out.ext he1).ext eA).ext eB
        have hne : some w1.heap.size ≠ some (ns i).m := fun e => by injection e with e; have := hlt i hi; omega
        exact BkIs.add HO.out hb2 hi hk hm (fun j hj => by have := hlt j hj; show (ns j).m ≠ w1.heap.size; omega) (Nat.le_trans he.hsize he1.hsize) (b1.mapgrown hbm k2) (Rd.keep i2 (fun _ _ hc => cell_grown hbm k2 hc)) (((MapO.made w1).ext eB).grown k2 hne) hn k1 k2
      · exact Below.grown ((he.trans he1).trans ((Ext.alloc _ _).trans (Ext.alloc _ _))) k2 (he.trans (he1.trans ((Ext.alloc _ _).trans (Ext.alloc _ _)))).hsize (fun j hj => by injection hj with hj; omega)
    | some j =>
      have hv : (kidF t ns i (dist (t.W i) W)).getD (.pointer none) = (ns j).ptr := by unfold kidF; rw [hk]; rfl
      go_wp2_with (at_lookup; refine wpList_get_o _ rfl _ _ _ _ rfl Try.underlying84 rfl m1 (dist (t.W i) W) (.pointer none) rfl hkw (zero_tree _) ?_; rw [hv]; unfold BkN.ptr)
      have hup := HO.out.up _ _ _ hk
      refine (put_ok f (by have := HF.out; omega) hup.2 HO.out (HB.out.ext he1) (HW.out.ext he1) hn hm (he.trans he1)).mono ?_
      rintro e w2 ⟨rfl, p, x, hp, hb2, he2⟩
      go_wp2_with fail
      go_end0
      exact ⟨rfl, p, x, PutW.down hk hp, hb2, he2⟩
end Go.Proofs.Ytdkjkcegchohfaa
