/-
  A range over the words of a part that collects them: what the caller owes.
-/
import Derived.Test.YtdkjkcegchohfaaTriF
import Derived.RangeFuncOwn
namespace Go.Proofs.Ytdkjkcegchohfaa
open Go.RowKit
set_option linter.unusedVariables false
set_option linter.unusedSimpArgs false
attribute [local go_sem] Oper.semAt_some

theorem each_none {S : List (List Int)} (hS : ∀ x ∈ S, x.length ≤ 24) {q : List Int} (h : ¬ (FS S q).isSome = true) : eachF S (kidsS S) 25 q = [] := by
  refine List.eq_nil_iff_forall_not_mem.2 fun x hx => h ?_
  obtain ⟨h1, h2⟩ := (mem_each (kidsS_ok S) hS 25 q (by omega) x).1 hx
  unfold FS
  rw [if_pos (.inr ⟨x, h1, h2⟩)]
  rfl

set_option maxRecDepth 20000 in
set_option maxHeartbeats 1000000 in
theorem words_ok (ns : List Int → TrN) (A : Option Addr) (n c : Nat) (w : World) :
    Calls Try.prog 35 #[(ns []).ptr, .slice A n c] w fun e w' => w' = (w.alloc (.cells #[.pointer (some ⟨(ns []).a, 0, none⟩)] 58)).alloc (.cells #[.slice A n c] 23) ∧
      e = .returned (.func (.func 55) #[] #[.pointer (some ⟨w.heap.size, 0, none⟩), .pointer (some ⟨w.heap.size + 1, 0, none⟩)]) := by
  unfold TrN.ptr
  go_enter Try.func35, Try.ntmps35
  go_wp2_with fail
  go_ret
  exact ⟨rfl, rfl⟩

set_option maxRecDepth 20000 in
set_option maxHeartbeats 1000000 in
theorem words1_ok {M : World → Nat → Prop} {J : List (List Int) → World → Prop} {B0 l : Nat} {all : List (List Int)} {b0 K : Nat} {S : List (List Int)} {ns : List Int → TrN} (hC : Calm M J B0) (hY : RoundsT M B0 l all J)
    (hS : ∀ x ∈ S, x.length ≤ 24) (hwf : ∀ x ∈ S, ∀ y ∈ x, (Lit.int .i64 y).wf = true) (hK : K ≤ 100000) {q : List Int} {W : World} {A : Option Addr} {n c b1 b2 : Nat} (hJ : J [] W) (hT : TrK M W b0 K (FS S) ns) (hs : SlT M W A n c q)
    (hwq : ∀ y ∈ q, (Lit.int .i64 y).wf = true) (c1 : W.cell? ⟨b1, 0, none⟩ = some (.pointer (some ⟨(ns []).a, 0, none⟩))) (c2 : W.cell? ⟨b2, 0, none⟩ = some (.slice A n c)) (hall : eachF S (kidsS S) 25 q = all) :
    Calls Try.prog 55 #[.func (.yield l) #[] #[], .pointer (some ⟨b1, 0, none⟩), .pointer (some ⟨b2, 0, none⟩)] W fun e W' => (∃ v, e = .returned v) ∧ J all W' ∧ Kp M W W' := by
  have hat := tat_ok hT.1 hT.1.root hs.1 hwq
  rw [List.nil_append] at hat
  unfold atV TrN.ptr at hat
  by_cases hq : (FS S q).isSome = true
  · rw [if_pos hq] at hat
    have he := each_all hC hY hS hwf hK 25 q (by omega) [] W A n c hJ hT hq hs (by rw [List.nil_append, hall]; exact List.prefix_refl _)
    rw [List.nil_append, hall] at he
    unfold TrN.ptr at he
    have HE := Lib.hid he
    have HAT := Lib.hid hat
    clear hC hY hS hwf hJ hT hs hwq hall hq he hat
    go_enter Try.func55, Try.ntmps55
    go_wp2_with fail
    refine HAT.out.mono ?_
    rintro e W ⟨rfl, rfl⟩
    go_wp2_with fail
    refine HE.out.mono ?_
    rintro e W2 ⟨rfl, hJ2, hk2⟩
    have HJ2 := Lib.hid hJ2
    have HK2 := Lib.hid hk2
    clear hJ2 hk2
    go_wp2_with fail
    go_end0
    exact ⟨⟨_, rfl⟩, HJ2.out, HK2.out⟩
  · rw [if_neg hq] at hat
    have e0 := each_none hS hq
    rw [hall] at e0
    have HJ : Hid (J all W) := Lib.hid (by rw [e0]; exact hJ)
    have HAT := Lib.hid hat
    clear hC hY hS hwf hJ hT hs hwq hall hq hat e0
    go_enter Try.func55, Try.ntmps55
    go_wp2_with fail
    refine HAT.out.mono ?_
    rintro e W ⟨rfl, rfl⟩
    go_wp2_with fail
    go_end0
    exact ⟨⟨_, rfl⟩, HJ.out, Kp.refl _ _⟩

/-- The caller's blocks: a slice's cell, and its row. -/
def Mine (g : Nat) (W : World) (k : Nat) : Prop := k = g ∨ ∃ A n c, W.cell? ⟨g, 0, none⟩ = some (.slice A n c) ∧ (Value.slice A n c).ownBlock = some k
/-- What has come lies in the slice whose cell is g. -/
def Got (g base : Nat) (pre : List (List Int)) (W : World) : Prop := ∃ A n c, Blk W g 22 #[.slice A n c] ∧ LnsO W base A n c pre
theorem Got.cell {g base : Nat} {pre : List (List Int)} {W : World} (h : Got g base pre W) : ∃ A n c, W.cell? ⟨g, 0, none⟩ = some (.slice A n c) ∧ LnsO W base A n c pre := by
  obtain ⟨A, n, c, h1, h2⟩ := h
  exact ⟨A, n, c, by rw [h1.cell 0]; rfl, h2⟩
theorem Got.ext {g base : Nat} {pre : List (List Int)} {W W' : World} (h : Got g base pre W) (he : Ext W W') : Got g base pre W' := by
  obtain ⟨A, n, c, h1, h2⟩ := h
  exact ⟨A, n, c, h1.ext he, h2.ext he⟩
theorem LnsO.blk {W : World} {base n c : Nat} {A : Option Addr} {ls : List (List Int)} (h : LnsO W base A n c ls) {k : Nat} (hk : (Value.slice A n c).ownBlock = some k) : base ≤ k ∧ k < W.heap.size := by
  obtain ⟨xs, h1, _⟩ := h
  exact Own.blk h1 k hk
theorem ne_low {W : World} {base n c q e z : Nat} {A : Option Addr} {xs : List Value} (h : Own W base e z A n c xs) (hq : q < base) : (Value.slice A n c).ownBlock = none ∨ (Value.slice A n c).ownBlock ≠ some q := by
  cases hb : (Value.slice A n c).ownBlock with
  | none => exact .inl rfl
  | some k => exact .inr (fun e => by injection e with e; have := (Own.blk h k hb).1; omega)
theorem LnsO.low {W W' : World} {base n c q : Nat} {A : Option Addr} {ls : List (List Int)} (h : LnsO W base A n c ls) (hg : W.grownBy W' (some q)) (hq : q < base) : LnsO W' base A n c ls := by
  obtain ⟨xs, h1, h2, h3⟩ := h
  refine ⟨xs, Own.kept h1 hg (ne_low h1 hq), ⟨h2.1, fun i hi => ?_⟩, h3⟩
  obtain ⟨v, k1, ⟨B, m, d, rfl, k2, k4⟩, k3⟩ := h2.2 i hi
  exact ⟨_, k1, ⟨B, m, d, rfl, Own.kept k2 hg (ne_low k2 hq), k4⟩, k3⟩
theorem Got.low {g base q : Nat} {pre : List (List Int)} {W W' : World} (h : Got g base pre W) (hg : W.grownBy W' (some q)) (hq : q < base) (hgq : g ≠ q) : Got g base pre W' := by
  obtain ⟨A, n, c, h1, h2⟩ := h
  exact ⟨A, n, c, h1.grown hg (fun e => by injection e with e; exact hgq e), h2.low hg hq⟩
theorem Mine.of_cell {g : Nat} {W W' : World} (h : W'.cell? ⟨g, 0, none⟩ = W.cell? ⟨g, 0, none⟩) {k : Nat} : Mine g W' k ↔ Mine g W k := by unfold Mine; rw [h]
theorem Got.mine_ext {g base : Nat} {pre : List (List Int)} {W W' : World} (h : Got g base pre W) (he : Ext W W') {k : Nat} : Mine g W' k ↔ Mine g W k := by
  obtain ⟨A, n, c, hc, _⟩ := h.cell
  exact Mine.of_cell ((he.cell hc).trans hc.symm)
theorem Got.mine_lt {g base : Nat} {pre : List (List Int)} {W : World} (h : Got g base pre W) {k : Nat} (hk : Mine g W k) : k = g ∨ (base ≤ k ∧ k < W.heap.size) := by
  rcases hk with rfl | ⟨A, n, c, hc, hb⟩
  · exact .inl rfl
  · obtain ⟨A', n', c', hc', hL⟩ := h.cell
    rw [hc] at hc'
    injection hc' with hc'
    injection hc' with e1 e2 e3
    subst e1; subst e2; subst e3
    exact .inr (hL.blk hb)
theorem Got.lt {g base : Nat} {pre : List (List Int)} {W : World} (h : Got g base pre W) : g < W.heap.size := by obtain ⟨A, n, c, h1, _⟩ := h; exact h1.lt
theorem putObj_grown (W : World) (l : Nat) (o : Obj) : W.grownBy (W.putObj l o) (some l) :=
  ⟨rfl, rfl, rfl, by simp, fun k _ hk => World.putObj_heap_other (fun e => hk (by rw [e]))⟩
theorem putObj_cell (W : World) {l g : Nat} (o : Obj) (h : g ≠ l) : (W.putObj l o).cell? ⟨g, 0, none⟩ = W.cell? ⟨g, 0, none⟩ := World.cell?_of_block (World.putObj_heap_other h)
/-- A turn of a block that came later. -/
theorem Kp.put {g base : Nat} {w W : World} (h : Kp (Mine g) w W) {l : Nat} (o : Obj) (hl : w.heap.size ≤ l) (hg : g ≠ l) : Kp (Mine g) w (W.putObj l o) :=
  ⟨h.os, h.tape, h.output, by have := h.size; simpa using this, fun k hk hm => by
    obtain ⟨h1, h2⟩ := h.keep k hk hm
    exact ⟨(World.putObj_heap_other (by omega)).trans h1, fun h' => h2 ((Mine.of_cell (putObj_cell W o hg)).1 h')⟩⟩

/-- How a round is left. -/
def gotPost (g b : Nat) (xs : List (List Int)) (W : World) : Exit → Act → World → Prop
  | .normal, _, W' => Got g (b + 2) xs W' ∧ Kp (Mine g) W W'
  | _, _, _ => False

set_option maxHeartbeats 1000000 in
theorem wp_words {gop : Operand} {ps : Array Tmp} {assign body : Code} {Q : Exit → Act → World → Prop} {a : Act} {w0 w : World} {S : List (List Int)} {b0 K b1 b2 g n c : Nat} {ns : List Int → TrN} {A : Option Addr} {q : List Int} {all : List (List Int)}
    (hg : a.eval gop = .func (.func 55) #[] #[.pointer (some ⟨b1, 0, none⟩), .pointer (some ⟨b2, 0, none⟩)]) (hps : ps.size = 1)
    (hS : ∀ x ∈ S, x.length ≤ 24) (hwf : ∀ x ∈ S, ∀ y ∈ x, (Lit.int .i64 y).wf = true) (hK : K ≤ 100000) (hT : TrIs w b0 K (FS S) ns) (hq : Ints w0 A n c q) (hA : A = none → c = 0) (hn8 : n * 8 ≤ 140737488355328) (hwq : ∀ y ∈ q, (Lit.int .i64 y).wf = true) (h0 : Ext w0 w) (hg0 : w0.heap.size ≤ g)
    (c1 : w.cell? ⟨b1, 0, none⟩ = some (.pointer (some ⟨(ns []).a, 0, none⟩))) (c2 : w.cell? ⟨b2, 0, none⟩ = some (.slice A n c)) (hgc : Blk w g 22 #[.slice none 0 0]) (hall : eachF S (kidsS S) 25 q = all)
    (a₁ : Value → Act)
    (hassign : ∀ (l : Nat) (v : Value) (W : World) (Kk : Act → World → Prop), Kk (a₁ v) W →
      assign.wpIn (Fence.wide.inRound l) 3 Try.prog (Exit.then Kk (fun _ _ _ => False)) { tmps := (ps.zip #[v]).foldl (fun t (p, v) => t.setIfInBounds p v) a.tmps, defers := [] } W)
    (hbody : ∀ (l : Nat) (pre : List (List Int)) (x : List Int) (B : Option Addr) (m d : Nat) (W : World), Got g (w.heap.size + 2) pre W → OwnI W (w.heap.size + 2) B m d x → (B = none → d = 0) → m ≤ 24 → (∀ k, (Value.slice B m d).ownBlock = some k → ¬ Mine g W k) → Kp (Mine g) w W → w.heap.size + 2 ≤ W.heap.size → pre ++ [x] <+: all →
      body.wpIn (Fence.wide.inRound l) 3 Try.prog (gotPost g w.heap.size (pre ++ [x]) W) (a₁ (.slice B m d)) W)
    (hdone : ∀ W, Got g (w.heap.size + 2) all W → Kp (Mine g) w W → W.heap[w.heap.size]? = some (.deferred (some [])) → Q .normal { a with defers := { target := .collected w.heap.size, args := #[] } :: a.defers } W) :
    (Code.rangeFunc gop ps assign body).wp Try.prog Q a w := by
  have hgl := hgc.lt
  refine (wpIn_wide (n := 3)).1 ?_
  refine wpIn_rangeFunc fun fn hfn => ?_
  let rc : LoopState → Option Code → Loop := fun st pe => { state := st, pending := pe, fn, tmps := a.tmps, params := ps, assign, body, defers := w.heap.size }
  let W1 := (w.alloc (.deferred (some []))).alloc (.loop (rc .ready none))
  have hs1 : W1.heap.size = w.heap.size + 2 := by simp [W1]
  have hL1 : W1.heap[w.heap.size + 1]? = some (.loop (rc .ready none)) := by
    have := World.alloc_heap_new (w.alloc (.deferred (some []))) (.loop (rc .ready none))
    rwa [World.size_alloc] at this
  have hK1 : W1.heap[w.heap.size]? = some (.deferred (some [])) := (Below.heap_alloc _ _ _ (by simp)).trans (World.alloc_heap_new w _)
  have hx1 : Ext w W1 := (Ext.alloc w _).to_alloc _
  have hlt : ∀ {k : Nat} {o : Obj} {W : World}, W.heap[k]? = some o → k < W.heap.size := fun h => (Array.getElem?_eq_some_iff.1 h).1
  have hgot1 : Got g (w.heap.size + 2) [] W1 := ⟨none, 0, 0, hgc.ext hx1, LnsO.nil _ _⟩
  have hmine1 : ∀ k, ¬ k = g → ¬ Mine g W1 k := fun k hk h => by
    rcases h with h | ⟨A', n', c', hc, hb⟩
    · exact hk h
    · have := (hgc.ext hx1).cell 0
      rw [hc] at this
      simp at this
      obtain ⟨rfl, rfl, rfl⟩ := this
      simp [Value.ownBlock] at hb
  have hkp1 : Kp (Mine g) w W1 := ⟨rfl, rfl, rfl, hx1.hsize, fun k hk hm => ⟨Below.block hx1 k hk, hmine1 k (fun e => hm (.inl e))⟩⟩
  let J : List (List Int) → World → Prop := fun pre W => (Got g (w.heap.size + 2) pre W ∧ Kp (Mine g) w W) ∧ W.heap[w.heap.size + 1]? = some (.loop (rc .ready none)) ∧ W.heap[w.heap.size]? = some (.deferred (some []))
  have hC : Calm (Mine g) J (w.heap.size + 2) := by
    refine ⟨fun pre W W' h he => ?_, fun pre W W' k h he hm => (h.1.1.mine_ext he).1 hm, fun pre W k h hm => ?_, fun pre W h => ?_⟩
    · obtain ⟨⟨h1, h2⟩, h3, h4⟩ := h
      refine ⟨⟨h1.ext he, h2.trans ⟨Below.os he, Below.tape he, Below.output he, he.hsize, fun k hk hm => ⟨Below.block he k hk, fun h' => hm ((h1.mine_ext he).1 h')⟩⟩⟩, (Below.block he _ (hlt h3)).trans h3, (Below.block he _ (hlt h4)).trans h4⟩
    · rcases h.1.1.mine_lt hm with rfl | ⟨_, h'⟩
      · exact h.1.1.lt
      · exact h'
    · have := hlt h.2.1; omega
  have hY : RoundsT (Mine g) (w.heap.size + 2) (w.heap.size + 1) all J := by
    rintro m pre x W B k d ⟨⟨hi, hkw⟩, hl, hk⟩ hO hB hk24 hnm hpre
    have hy := run_yield (P := Try.prog) (args := #[.slice B k d]) hl (by show 1 = ps.size; rw [hps])
    refine ⟨fn, _, assign, body, hy, roundIn_any (F := Fence.wide) rfl (m := 3) (roundIn_of_wpIn hfn (hassign _ _ W _ ⟨_, run_beginRound hl rfl, ?_⟩))⟩
    have hgne : g ≠ w.heap.size + 1 := by omega
    have hnm1 : ¬ Mine g W (w.heap.size + 1) := fun h => by
      rcases hi.mine_lt h with h | ⟨h, _⟩ <;> omega
    have hnm0 : ¬ Mine g W w.heap.size := fun h => by
      rcases hi.mine_lt h with h | ⟨h, _⟩ <;> omega
    have hpo := putObj_grown W (w.heap.size + 1) (.loop { rc .ready none with state := .busy })
    have hmc : ∀ j, Mine g (W.putObj (w.heap.size + 1) (.loop { rc .ready none with state := .busy })) j ↔ Mine g W j := fun j => Mine.of_cell (putObj_cell W _ hgne)
    have hW2 : (W.putObj (w.heap.size + 1) (.loop { rc .ready none with state := .busy })).heap[w.heap.size + 1]? = some (.loop { rc .ready none with state := .busy }) := World.putObj_heap_same (hlt hl)
    have hk2 : (W.putObj (w.heap.size + 1) (.loop { rc .ready none with state := .busy })).heap[w.heap.size]? = some (.deferred (some [])) := (World.putObj_heap_other (by omega)).trans hk
    refine wpIn_mono (hbody _ pre x B k d _ (hi.low hpo (by omega) hgne) (Own.kept hO hpo (ne_low hO (by omega))) hB hk24 (fun j hj h' => hnm j hj ((hmc j).1 h')) (Kp.put (base := 0) hkw _ (by omega) hgne) (hlt hW2) hpre) ?_
    rintro e a3 W3 hp
    cases e with
    | normal =>
      obtain ⟨hg3, hk3⟩ := hp
      have hl3 : W3.heap[w.heap.size + 1]? = some (.loop { rc .ready none with state := .busy }) := (hk3.keep _ (hlt hW2) (fun h' => hnm1 ((hmc _).1 h'))).1.trans hW2
      have hd3 : W3.heap[w.heap.size]? = some (.deferred (some [])) := (hk3.keep _ (hlt hk2) (fun h' => hnm0 ((hmc _).1 h'))).1.trans hk2
      have hpo3 := putObj_grown W3 (w.heap.size + 1) (.loop (rc .ready none))
      have hmc3 : ∀ j, Mine g (W3.putObj (w.heap.size + 1) (.loop (rc .ready none))) j ↔ Mine g W3 j := fun j => Mine.of_cell (putObj_cell W3 _ hgne)
      have hl4 : (W3.putObj (w.heap.size + 1) (.loop (rc .ready none))).heap[w.heap.size + 1]? = some (.loop (rc .ready none)) := World.putObj_heap_same (hlt hl3)
      have hkk : Kp (Mine g) W (W3.putObj (w.heap.size + 1) (.loop (rc .ready none))) := by
        refine ⟨hk3.os, hk3.tape, hk3.output, by have := hk3.size; simpa using this, fun j hj hm => ?_⟩
        have h5 := hk3.keep j (by simpa using hj) (fun h' => hm ((hmc j).1 h'))
        refine ⟨?_, fun h' => h5.2 ((hmc3 j).1 h')⟩
        by_cases e : j = w.heap.size + 1
        · subst e; rw [hl4, hl]
        · rw [World.putObj_heap_other e, h5.1, World.putObj_heap_other e]
      refine ⟨.bool true, _, run_endRound (P := Try.prog) none hl3, rfl, ⟨⟨hg3.low hpo3 (by omega) hgne, hkw.trans hkk⟩, hl4, (World.putObj_heap_other (by omega)).trans hd3⟩, hkk⟩
    | ret => exact hp.elim
    | exit id => exact hp.elim
    | goto t => exact hp.elim
    | panic ch => exact hp.elim
    | outgrown => exact hp.elim
  have hTK : TrK (Mine g) W1 b0 K (FS S) ns := by
    refine ⟨hT.ext hx1, fun p hp => ⟨hmine1 _ (fun e => ?_), fun m hm => hmine1 _ (fun e => ?_)⟩⟩
    · obtain ⟨v, hv⟩ := Option.isSome_iff_exists.1 hp
      have h1 := hT.blk hv
      unfold Blk at h1 hgc
      rw [e, hgc] at h1
      injection h1 with h1
      injection h1 with _ h1
      exact absurd h1 (by decide)
    · obtain ⟨es, clock, hb⟩ := (hT.map hm hp).2.block
      unfold Blk at hgc
      rw [e, hgc] at hb
      cases hb
  have hSl : SlT (Mine g) W1 A n c q := by
    refine ⟨hq.ext (h0.trans hx1), hA, hn8, fun hn ad e => hmine1 _ (fun e2 => ?_)⟩
    obtain ⟨ad', e', hc⟩ := hq.at_ hn
    rw [e] at e'
    injection e' with e'
    subst e'
    have := World.block_lt_of_cell? w0 _ (hc 0 hn)
    rw [block_of_add] at this
    omega
  have hCl := words1_ok (l := w.heap.size + 1) (W := W1) hC hY hS hwf hK ⟨⟨hgot1, hkp1⟩, hL1, hK1⟩ hTK hSl hwq (hx1.cell c1) (hx1.cell c2) hall
  refine ⟨w.heap.size + 1, [{ target := .collected w.heap.size, args := #[] }], W1, { target := .fn (.func 55) #[.pointer (some ⟨b1, 0, none⟩), .pointer (some ⟨b2, 0, none⟩)], args := #[.func (.yield (w.heap.size + 1)) #[] #[]] }, W1, 55,
    #[.func (.yield (w.heap.size + 1)) #[] #[], .pointer (some ⟨b1, 0, none⟩), .pointer (some ⟨b2, 0, none⟩)], W1, run_enterLoop_outer _ _ _ _ _, ?_, fun _ _ => trivial, ?_, fun _ => by omega, ?_⟩
  · simp only [resolve, hg]
    simp [go_sem]
  · simp [invoke, go_sem, enters_of Try.func55 (by kernel_rfl) rfl]
  · refine callsIn_wide.2 (hCl.mono ?_)
    rintro e W2 ⟨⟨v, rfl⟩, ⟨⟨hi, hkw⟩, hl, hk⟩, _⟩
    exact ⟨none, _, run_endLoop (P := Try.prog) hl (by simp [rc]), hdone _ (hi.low (putObj_grown W2 (w.heap.size + 1) _) (by omega) (by omega)) (Kp.put (base := 0) hkw _ (by omega) (by omega)) ((World.putObj_heap_other (by omega)).trans hk)⟩
set_option maxHeartbeats 1000000 in
/-- The same, the frame told by what is set in it. -/
theorem wp_wordsF {gop : Operand} {ps : Array Tmp} {assign body : Code} {Q : Exit → Act → World → Prop} {a : Act} {w0 w : World} {S : List (List Int)} {b0 K b1 b2 g n c : Nat} {ns : List Int → TrN} {A : Option Addr} {q : List Int} {all : List (List Int)}
    (hg : a.eval gop = .func (.func 55) #[] #[.pointer (some ⟨b1, 0, none⟩), .pointer (some ⟨b2, 0, none⟩)]) (hps : ps.size = 1)
    (hS : ∀ x ∈ S, x.length ≤ 24) (hwf : ∀ x ∈ S, ∀ y ∈ x, (Lit.int .i64 y).wf = true) (hK : K ≤ 100000) (hT : TrIs w b0 K (FS S) ns) (hq : Ints w0 A n c q) (hA : A = none → c = 0) (hn8 : n * 8 ≤ 140737488355328) (hwq : ∀ y ∈ q, (Lit.int .i64 y).wf = true) (h0 : Ext w0 w) (hg0 : w0.heap.size ≤ g)
    (c1 : w.cell? ⟨b1, 0, none⟩ = some (.pointer (some ⟨(ns []).a, 0, none⟩))) (c2 : w.cell? ⟨b2, 0, none⟩ = some (.slice A n c)) (hgc : Blk w g 22 #[.slice none 0 0]) (hall : eachF S (kidsS S) 25 q = all)
    (f : Array Value → Value → Array Value)
    (hassign : ∀ (l : Nat) (v : Value) (W : World) (Kk : Act → World → Prop), Kk { tmps := f a.tmps v, defers := [] } W →
      assign.wpIn (Fence.wide.inRound l) 3 Try.prog (Exit.then Kk (fun _ _ _ => False)) { tmps := (ps.zip #[v]).foldl (fun t (p, v) => t.setIfInBounds p v) a.tmps, defers := [] } W)
    (hbody : ∀ (l : Nat) (pre : List (List Int)) (x : List Int) (B : Option Addr) (m d : Nat) (W : World), Got g (w.heap.size + 2) pre W → OwnI W (w.heap.size + 2) B m d x → (B = none → d = 0) → m ≤ 24 → (∀ k, (Value.slice B m d).ownBlock = some k → ¬ Mine g W k) → Kp (Mine g) w W → w.heap.size + 2 ≤ W.heap.size → pre ++ [x] <+: all →
      body.wpIn (Fence.wide.inRound l) 3 Try.prog (gotPost g w.heap.size (pre ++ [x]) W) { tmps := f a.tmps (.slice B m d), defers := [] } W)
    (hdone : ∀ W, Got g (w.heap.size + 2) all W → Kp (Mine g) w W → W.heap[w.heap.size]? = some (.deferred (some [])) → Q .normal { a with defers := { target := .collected w.heap.size, args := #[] } :: a.defers } W) :
    (Code.rangeFunc gop ps assign body).wp Try.prog Q a w :=
  wp_words hg hps hS hwf hK hT hq hA hn8 hwq h0 hg0 c1 c2 hgc hall (fun v => { tmps := f a.tmps v, defers := [] }) hassign hbody hdone
end Go.Proofs.Ytdkjkcegchohfaa
