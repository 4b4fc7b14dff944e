/-
  A range over Each: what the caller owes.
-/
import Derived.Test.YtbfamaccnjnfpaaEaC
import Derived.RangeFuncOwn
namespace Go.Proofs.Ytbfamaccnjnfpaa
open Go.RowKit
set_option linter.unusedVariables false
set_option linter.unusedSimpArgs false

/-- The six blocks that a range over Each lays for itself lie as they lay. -/
def Six (b : Nat) (W W' : World) : Prop := W.heap.size ≤ W'.heap.size ∧ ∀ k, b ≤ k → k < b + 6 → W'.heap[k]? = W.heap[k]?
theorem Six.refl (b : Nat) (W : World) : Six b W W := ⟨Nat.le_refl _, fun _ _ _ => rfl⟩
theorem Six.trans {b : Nat} {W W' W'' : World} (h : Six b W W') (k : Six b W' W'') : Six b W W'' := ⟨Nat.le_trans h.1 k.1, fun j h1 h2 => (k.2 j h1 h2).trans (h.2 j h1 h2)⟩
theorem Six.grown {b : Nat} {W W' : World} {row : Option Nat} (hg : W.grownBy W' row) (hs : b + 6 ≤ W.heap.size) (hr : ∀ k, row = some k → k < b ∨ b + 6 ≤ k) : Six b W W' :=
  ⟨hg.size, fun k h1 h2 => hg.block k (by omega) (fun e => by have := hr k e.symm; omega)⟩
/-- What is said abides a turn of these six. -/
def Minds {β : Type} (b : Nat) (I : β → World → Prop) : Prop := ∀ s W W' q, I s W → W.grownBy W' (some q) → b ≤ q → q < b + 6 → I s W'
theorem putObj_grown (W : World) (l : Nat) (o : Obj) : W.grownBy (W.putObj l o) (some l) :=
  ⟨rfl, rfl, rfl, by simp, fun k _ hk => World.putObj_heap_other (fun e => hk (by rw [e]))⟩
theorem Minds.put {β : Type} {b l : Nat} {I : β → World → Prop} (h : Minds b I) {s : β} {W : World} (hs : I s W) (o : Obj) (h1 : b ≤ l) (h2 : l < b + 6) : I s (W.putObj l o) := h s W _ l hs (putObj_grown W l o) h1 h2

/-- How a round may be left. -/
def eachPost (b : Nat) (I : List Int → World → Prop) (Ix : Code → List Int → World → Prop) (xs : List Int) (W : World) : Exit → Act → World → Prop
  | .normal, _, W' => Six b W W' ∧ I xs W'
  | .ret, _, W' => Six b W W' ∧ Ix .ret xs W'
  | .exit id, _, W' => Six b W W' ∧ Ix (.exit id) xs W'
  | .goto t, _, W' => Six b W W' ∧ Ix (.goto t) xs W'
  | .panic _, _, _ => False
  | .outgrown, _, _ => False

set_option maxHeartbeats 1000000 in
theorem wp_each {g : Operand} {ps : Array Tmp} {assign body : Code} {Q : Exit → Act → World → Prop} {a : Act} {w : World} {T : AT} {all : List Int}
    (hg : a.eval g = .func (.func 5) #[.agg #[.pointer T.ad]] #[]) (hps : ps.size = 2) (hTa : T.toL = all) (hall : all.length ≤ 100000)
    (I : List Int → World → Prop) (Ix : Code → List Int → World → Prop) (hI : Minds w.heap.size I) (hIx : ∀ c, Minds w.heap.size (Ix c)) (hIn : ∀ s W, I s W → InMem W w.heap.size T) (h0 : I [] w) (a₁ : Int → Int → Act)
    (hassign : ∀ (l : Nat) (at_ x : Int) (W : World) (K : Act → World → Prop), K (a₁ at_ x) W →
      assign.wpIn (Fence.wide.inRound l) 3 Try.prog (Exit.then K (fun _ _ _ => False)) { tmps := (ps.zip #[.int .i64 at_, .int .i64 x]).foldl (fun t (p, v) => t.setIfInBounds p v) a.tmps, defers := [] } W)
    (hbody : ∀ (l : Nat) (pre : List Int) (x : Int) (W : World), I pre W → w.heap.size + 6 ≤ W.heap.size → pre ++ [x] <+: all → body.wpIn (Fence.wide.inRound l) 3 Try.prog (eachPost w.heap.size I Ix (pre ++ [x]) W) (a₁ pre.length x) W)
    (hdone : ∀ W, I all W → W.heap[w.heap.size]? = some (.deferred (some [])) → Q .normal { a with defers := { target := .collected w.heap.size, args := #[] } :: a.defers } W)
    (hstop : ∀ (c : Code) (pre : List Int) W, pre <+: all → Ix c pre W → W.heap[w.heap.size]? = some (.deferred (some [])) → c.wp Try.prog Q { a with defers := { target := .collected w.heap.size, args := #[] } :: a.defers } W) :
    (Code.rangeFunc g ps assign body).wp Try.prog Q a w := by
  refine (wpIn_wide (n := 3)).1 ?_
  refine wpIn_rangeFunc fun fn hfn => ?_
  let rc : LoopState → Option Code → Loop := fun st pe => { state := st, pending := pe, fn, tmps := a.tmps, params := ps, assign, body, defers := w.heap.size }
  let W1 := (w.alloc (.deferred (some []))).alloc (.loop (rc .ready none))
  have hs1 : W1.heap.size = w.heap.size + 2 := by simp [W1]
  have hL1 : W1.heap[w.heap.size + 1]? = some (.loop (rc .ready none)) := by
    have := World.alloc_heap_new (w.alloc (.deferred (some []))) (.loop (rc .ready none))
    rwa [World.size_alloc] at this
  have hK1 : W1.heap[w.heap.size]? = some (.deferred (some [])) := (Below.heap_alloc _ _ _ (by simp)).trans (World.alloc_heap_new w _)
  have hx1 : Ext w W1 := (Ext.alloc w _).to_alloc _
  let J : List Int → World → Prop := fun pre W => I pre W ∧ W.heap[w.heap.size + 1]? = some (.loop (rc .ready none)) ∧ W.heap[w.heap.size]? = some (.deferred (some []))
  let Jx : List Int → World → Prop := fun pre W => ∃ c, Ix c pre W ∧ W.heap[w.heap.size + 1]? = some (.loop (rc .done (some c))) ∧ W.heap[w.heap.size]? = some (.deferred (some []))
  have hlt : ∀ {k : Nat} {o : Obj} {W : World}, W.heap[k]? = some o → k < W.heap.size := fun h => (Array.getElem?_eq_some_iff.1 h).1
  have hY : RoundsAt W1.heap.size (w.heap.size + 1) all J Jx := by
    rintro m pre x W ⟨hi, hl, hk⟩ hsz hpre
    rw [hs1] at hsz
    have hy := run_yield (P := Try.prog) (args := #[.int .i64 (pre.length : Int), .int .i64 x]) hl (by show 2 = ps.size; rw [hps])
    refine ⟨fn, _, assign, body, hy, roundIn_any (F := Fence.wide) rfl (m := 3) (roundIn_of_wpIn hfn (hassign _ _ x W _ ⟨_, run_beginRound hl rfl, ?_⟩))⟩
    have hW2 : (W.putObj (w.heap.size + 1) (.loop { rc .ready none with state := .busy })).heap[w.heap.size + 1]? = some (.loop { rc .ready none with state := .busy }) := World.putObj_heap_same (hlt hl)
    have hk2 : (W.putObj (w.heap.size + 1) (.loop { rc .ready none with state := .busy })).heap[w.heap.size]? = some (.deferred (some [])) := (World.putObj_heap_other (by omega)).trans hk
    refine wpIn_mono (hbody _ pre x _ (hI.put hi _ (by omega) (by omega)) (by simpa using hsz) hpre) ?_
    have fin : ∀ (jump : Option Code) (W3 : World), Six w.heap.size (W.putObj (w.heap.size + 1) (.loop { rc .ready none with state := .busy })) W3 →
        ∃ W4, W4 = W3.putObj (w.heap.size + 1) (.loop (rc (if jump.isNone then .ready else .done) jump)) ∧ (Instr.endRound (w.heap.size + 1) jump).run Try.prog W3 = .ok (.bool jump.isNone) W4 ∧
        W4.heap[w.heap.size + 1]? = some (.loop (rc (if jump.isNone then .ready else .done) jump)) ∧ W4.heap[w.heap.size]? = some (.deferred (some [])) ∧ Kp4 W1.heap.size W W4 := fun jump W3 h6 => by
      have hl3 : W3.heap[w.heap.size + 1]? = some (.loop { rc .ready none with state := .busy }) := (h6.2 _ (by omega) (by omega)).trans hW2
      have hk3 : W3.heap[w.heap.size]? = some (.deferred (some [])) := (h6.2 _ (by omega) (by omega)).trans hk2
      refine ⟨_, rfl, run_endRound (P := Try.prog) jump hl3, World.putObj_heap_same (hlt hl3), (World.putObj_heap_other (by omega)).trans hk3, ?_, fun k h1 h2 => ?_⟩
      · have := h6.1; simp at this ⊢; exact this
      · rw [hs1] at h1 h2
        rw [World.putObj_heap_other (by omega), h6.2 k (by omega) (by omega), World.putObj_heap_other (by omega)]
    rintro e a3 W3 hp
    cases e with
    | normal =>
      obtain ⟨W4, rfl, h1, h2, h3, h4⟩ := fin none W3 hp.1
      exact ⟨_, _, h1, .inl ⟨rfl, ⟨hI.put hp.2 _ (by omega) (by omega), h2, h3⟩, h4⟩⟩
    | ret =>
      obtain ⟨W4, rfl, h1, h2, h3, h4⟩ := fin (some .ret) W3 hp.1
      exact ⟨_, _, h1, .inr ⟨rfl, .ret, (hIx _).put hp.2 _ (by omega) (by omega), h2, h3⟩⟩
    | exit id =>
      obtain ⟨W4, rfl, h1, h2, h3, h4⟩ := fin (some (.exit id)) W3 hp.1
      exact ⟨_, _, h1, .inr ⟨rfl, .exit id, (hIx _).put hp.2 _ (by omega) (by omega), h2, h3⟩⟩
    | goto t =>
      obtain ⟨W4, rfl, h1, h2, h3, h4⟩ := fin (some (.goto t)) W3 hp.1
      exact ⟨_, _, h1, .inr ⟨rfl, .goto t, (hIx _).put hp.2 _ (by omega) (by omega), h2, h3⟩⟩
    | panic ch => exact hp.elim
    | outgrown => exact hp.elim
  have hJc : Counts W1.heap.size J := by
    rintro s A B ⟨h1, h2, h3⟩ hgr
    rw [hs1] at hgr
    exact ⟨hI s A B _ h1 hgr (by omega) (by omega), (hgr.block _ (hlt h2) (fun e => by injection e with e; omega)).trans h2, (hgr.block _ (hlt h3) (fun e => by injection e with e; omega)).trans h3⟩
  have hC := each_ok (l := w.heap.size + 1) (W := W1) (T := T) (J := J) (Jx := Jx) hTa hall hY hJc (fun s W h => (hIn s W h.1).lower (by omega)) ⟨hI _ _ _ (w.heap.size + 5) h0 (hx1.grownBy _) (by omega) (by omega), hL1, hK1⟩
  refine ⟨w.heap.size + 1, [{ target := .collected w.heap.size, args := #[] }], W1, { target := .fn (.func 5) #[], args := #[.agg #[.pointer T.ad], .func (.yield (w.heap.size + 1)) #[] #[]] }, W1, 5,
    #[.agg #[.pointer T.ad], .func (.yield (w.heap.size + 1)) #[] #[]], W1, run_enterLoop_outer _ _ _ _ _, ?_, fun _ _ => trivial, ?_, fun _ => by omega, ?_⟩
  · simp only [resolve, hg]
    simp [go_sem]
  · simp [invoke, go_sem, enters_of Try.func5 (by kernel_rfl) rfl]
  · refine callsIn_wide.2 (hC.mono ?_)
    rintro e W2 ⟨⟨v, rfl⟩, ⟨hi, hl, hk⟩ | ⟨pre, hpre, c, hi, hl, hk⟩⟩
    · exact ⟨none, _, run_endLoop (P := Try.prog) hl (by simp [rc]), hdone _ (hI.put hi _ (by omega) (by omega)) ((World.putObj_heap_other (by omega)).trans hk)⟩
    · exact ⟨some c, _, run_endLoop (P := Try.prog) hl (by simp [rc]), wpIn_wide.2 (hstop c pre _ hpre ((hIx c).put hi _ (by omega) (by omega)) ((World.putObj_heap_other (by omega)).trans hk))⟩
end Go.Proofs.Ytbfamaccnjnfpaa
