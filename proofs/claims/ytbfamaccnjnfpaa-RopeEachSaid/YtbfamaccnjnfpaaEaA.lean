/-
  Each: the closure that walks a tree and hands each number on.
-/
import Derived.Test.YtbfamaccnjnfpaaRopeOf
import Derived.RangeFuncRecord
import Derived.RangeFuncBound
import Derived.RangeFuncCalls
import Derived.RangeFuncLeaves
import Derived.RangeFuncSeq
import Derived.Shelf.Abstract
import Derived.Shelf.RegionOpen
import Derived.WalkKit
import Derived.OwnWalkIn
import Derived.TacticsInMore
import Derived.LoopNIn
import Derived.LoopIn
namespace Go.Proofs.Ytbfamaccnjnfpaa
open Go.RowKit
set_option linter.unusedVariables false
set_option linter.unusedSimpArgs false
attribute [local go_sem] Oper.semAt_some

/-- A tree with its blocks. -/
inductive AT where
  | nil : AT
  | node : Nat → AT → Int → AT → AT
namespace AT
def tr : AT → Tr
  | nil => .nil
  | node _ l c r => .node l.tr c r.tr
def toL : AT → List Int
  | nil => []
  | node _ l c r => l.toL ++ c :: r.toL
def ad : AT → Option Addr
  | nil => none
  | node g _ _ _ => some ⟨g, 0, none⟩
end AT
/-- It lies in memory, below B. -/
def InMem (w : World) (B : Nat) : AT → Prop
  | .nil => True
  | .node g l c r => g < B ∧ Blk w g 36 #[.pointer l.ad, .pointer r.ad, .int .i64 c, .int .i64 (Tr.node l.tr c r.tr).sz, .int .i64 (Tr.node l.tr c r.tr).ht] ∧ InMem w B l ∧ InMem w B r
theorem AT.toL_tr : ∀ t : AT, t.toL = t.tr.toL
  | .nil => rfl
  | .node _ l c r => by simp [AT.toL, AT.tr, Tr.toL_node, AT.toL_tr l, AT.toL_tr r]
theorem inMem_of {w : World} : ∀ {t : Tr} {a : Option Addr}, TreeAt w a t → ∃ T : AT, T.tr = t ∧ T.ad = a ∧ InMem w w.heap.size T
  | .nil, a, h => ⟨.nil, rfl, h.symm, trivial⟩
  | .node l c r, a, h => by
    obtain ⟨g, la, ra, rfl, hb, hl, hr⟩ := h
    obtain ⟨L, rfl, rfl, h1⟩ := inMem_of hl
    obtain ⟨R, rfl, rfl, h2⟩ := inMem_of hr
    exact ⟨.node g L c R, rfl, rfl, hb.lt, hb, h1, h2⟩
theorem InMem.grown {w w' : World} {B : Nat} {q : Nat} (hg : w.grownBy w' (some q)) (hq : B ≤ q) : ∀ {T : AT}, InMem w B T → InMem w' B T
  | .nil, _ => trivial
  | .node g l c r, ⟨h1, h2, h3, h4⟩ => ⟨h1, h2.grown hg (fun e => by injection e with e; omega), InMem.grown hg hq h3, InMem.grown hg hq h4⟩
theorem InMem.ext {w w' : World} {B : Nat} (he : Ext w w') : ∀ {T : AT}, InMem w B T → InMem w' B T
  | .nil, _ => trivial
  | .node g l c r, ⟨h1, h2, h3, h4⟩ => ⟨h1, h2.ext he, InMem.ext he h3, InMem.ext he h4⟩
theorem InMem.lower {w : World} {B B' : Nat} (hb : B ≤ B') : ∀ {T : AT}, InMem w B T → InMem w B' T
  | .nil, _ => trivial
  | .node g l c r, ⟨h1, h2, h3, h4⟩ => ⟨by omega, h2, InMem.lower hb h3, InMem.lower hb h4⟩
/-- A store into a block that is no node's. -/
theorem InMem.slot {w : World} {B q T : Nat} {x u : Value} (hT : T ≠ 36) (hb : Blk w q T #[x]) : ∀ {t : AT}, InMem w B t → InMem (w.setCell ⟨q, 0, none⟩ u) B t
  | .nil, _ => trivial
  | .node g l c r, ⟨h1, h2, h3, h4⟩ => ⟨h1, Blk.setNe h2 (p := ⟨q, 0, none⟩) (fun e => by
      have e : q = g := e
      subst e
      unfold Blk at h2 hb
      rw [h2] at hb
      injection hb with hb
      injection hb with _ hb
      exact hT hb.symm) u, InMem.slot hT hb h3, InMem.slot hT hb h4⟩

/-- The iterator's own cells, from B on. -/
structure IterAt (B l : Nat) (W : World) (at_ : Nat) : Prop where
  yield : Blk W (B + 1) 33 #[.func (.yield l) #[] #[]]
  count : Blk W (B + 2) 3 #[.int .i64 at_]
  walk : Blk W (B + 3) 34 #[.func (.func 8) #[] #[.pointer (some ⟨B + 3, 0, none⟩), .pointer (some ⟨B + 1, 0, none⟩), .pointer (some ⟨B + 2, 0, none⟩)]]
/-- What a round keeps: the iterator's cells. -/
def Kp4 (B : Nat) (W W' : World) : Prop := W.heap.size ≤ W'.heap.size ∧ ∀ k, B ≤ k → k < B + 4 → W'.heap[k]? = W.heap[k]?
theorem IterAt.kept {B l n : Nat} {W W' : World} (h : IterAt B l W n) (hk : Kp4 B W W') : IterAt B l W' n :=
  ⟨(hk.2 _ (by omega) (by omega)).trans h.yield, (hk.2 _ (by omega) (by omega)).trans h.count, (hk.2 _ (by omega) (by omega)).trans h.walk⟩
theorem IterAt.drew {B l n : Nat} {W : World} (h : IterAt B l W n) : IterAt B l W.drew n := ⟨h.yield, h.count, h.walk⟩
theorem IterAt.next {B l n m : Nat} {W : World} (h : IterAt B l W n) (hm : m = n + 1) : IterAt B l (W.setCell ⟨B + 2, 0, none⟩ (.int .i64 m)) m := by
  subst hm
  exact ⟨Blk.setNe h.yield (p := ⟨B + 2, 0, none⟩) (by show B + 2 ≠ B + 1; omega) _, by simpa using h.count.set_ 0 (.int .i64 (n + 1)), Blk.setNe h.walk (p := ⟨B + 2, 0, none⟩) (by show B + 2 ≠ B + 3; omega) _⟩
theorem IterAt.cells {B l n : Nat} {W : World} (h : IterAt B l W n) : W.cell? ⟨B + 1, 0, none⟩ = some (.func (.yield l) #[] #[]) ∧ W.cell? ⟨B + 2, 0, none⟩ = some (.int .i64 n) ∧ W.frozen? ⟨B + 2, 0, none⟩ = false ∧
    W.cell? ⟨B + 3, 0, none⟩ = some (.func (.func 8) #[] #[.pointer (some ⟨B + 3, 0, none⟩), .pointer (some ⟨B + 1, 0, none⟩), .pointer (some ⟨B + 2, 0, none⟩)]) :=
  ⟨by have := h.yield.cell 0; simpa using this, by have := h.count.cell 0; simpa using this, h.count.frozen 0, by have := h.walk.cell 0; simpa using this⟩
theorem IterAt.size {B l n : Nat} {W : World} (h : IterAt B l W n) : B + 4 ≤ W.heap.size := by have := h.walk.lt; omega

theorem room_none {F : Fence} (hd : F.depth = none) (k : Nat) : F.room k := fun d h => by rw [hd] at h; cases h
theorem roundIn_any {F : Fence} (hd : F.depth = none) {m m' : Nat} {P : Program} {l : Nat} {f : FuncId} {tmps : Array Value} {assign body : Code} {w : World} {R : Ending → World → Prop}
    (h : RoundIn F m P l f tmps assign body w R) : RoundIn F m' P l f tmps assign body w R := ⟨h.1, fun c cs _ => h.2 c cs (room_none hd _)⟩
theorem yieldAt_any {F : Fence} (hd : F.depth = none) {m : Nat} (m' : Nat) {P : Program} {l : Nat} {args : Array Value} {W : World} {R : Ending → World → Prop} (h : YieldAt F m P l args W R) : YieldAt F m' P l args W R := by
  obtain ⟨fn, tmps, assign, body, hy, hR⟩ := h
  exact ⟨fn, tmps, assign, body, hy, roundIn_any hd hR⟩

/-- What a round does at each number that comes. -/
def RoundsAt (B l : Nat) (all : List Int) (J Jx : List Int → World → Prop) : Prop :=
  ∀ m pre x W, J pre W → B + 4 ≤ W.heap.size → pre ++ [x] <+: all → YieldAt Fence.wide m Try.prog l #[.int .i64 pre.length, .int .i64 x] W fun e W' =>
    (e = .returned (.bool true) ∧ J (pre ++ [x]) W' ∧ Kp4 B W W') ∨ (e = .returned (.bool false) ∧ Jx (pre ++ [x]) W')
/-- The counter may be counted on. -/
def Counts (B : Nat) (J : List Int → World → Prop) : Prop := ∀ s W W', J s W → W.grownBy W' (some (B + 2)) → J s W'
theorem setCell_grown (w : World) (p : Addr) (u : Value) : w.grownBy (w.setCell p u) (some p.block) :=
  ⟨rfl, rfl, rfl, by simp, fun k hk hne => by
    unfold World.setCell
    split <;> (simp only [Array.getElem?_modify]; rw [if_neg (fun e => hne (by rw [e]))])⟩
theorem IterAt.next' {B l n : Nat} {W : World} (h : IterAt B l W n) : IterAt B l (W.setCell ⟨B + 2, 0, none⟩ (.int .i64 ((n : Int) + 1))) (n + 1) := by
  have := h.next (m := n + 1) rfl
  exact this
end Go.Proofs.Ytbfamaccnjnfpaa
