/-
  each: what a range over the words of a part owes and keeps.
-/
import Derived.Test.YtdkjkcegchohfaaTriO
import Derived.Test.YtdkjkcegchohfaaClone
import Derived.RangeFuncRecord
import Derived.RangeFuncBound
import Derived.RangeFuncCalls
import Derived.RangeFuncLeaves
import Derived.RangeFuncSeq
import Derived.Shelf.Abstract
import Derived.OwnWalkIn
import Derived.TacticsInMore
import Derived.LoopNIn
import Derived.LoopIn
namespace Go.Proofs.Ytdkjkcegchohfaa
open Go.RowKit
set_option linter.unusedVariables false
set_option linter.unusedSimpArgs false
attribute [local go_sem] Oper.semAt_some

/-- The characters that go on behind a path. -/
def nextC (p x : List Int) : Option Int := if p <+: x then x[p.length]? else none
def moreI (s : List Int) (c : Int) : List Int := if c ∈ s then s else c :: s
theorem foldI_mem (ls s : List Int) (x : Int) : x ∈ ls.foldl moreI s ↔ x ∈ s ∨ x ∈ ls := by
  induction ls generalizing s with
  | nil => simp
  | cons c ls ih =>
    rw [List.foldl_cons, ih, List.mem_cons]
    unfold moreI
    split
    · rename_i h
      constructor
      · rintro (h1 | h1)
        · exact .inl h1
        · exact .inr (.inr h1)
      · rintro (h1 | rfl | h1)
        · exact .inl h1
        · exact .inl h
        · exact .inr h1
    · rw [List.mem_cons, or_assoc]
      constructor
      · rintro (h1 | h1 | h1)
        · exact .inr (.inl h1)
        · exact .inl h1
        · exact .inr (.inr h1)
      · rintro (h1 | h1 | h1)
        · exact .inr (.inl h1)
        · exact .inl h1
        · exact .inr (.inr h1)
theorem foldI_nodup (ls s : List Int) (h : s.Nodup) : (ls.foldl moreI s).Nodup := by
  induction ls generalizing s with
  | nil => exact h
  | cons c ls ih =>
    refine ih _ ?_
    unfold moreI
    split
    · exact h
    · exact List.nodup_cons.2 ⟨by assumption, h⟩
def kidsS (S : List (List Int)) (p : List Int) : List Int := sortI' ((S.filterMap (nextC p)).foldl moreI [])
theorem nextC_iff {p x : List Int} {c : Int} : nextC p x = some c ↔ p ++ [c] <+: x := by
  unfold nextC
  constructor
  · intro h
    split at h
    · rename_i hp
      obtain ⟨r, rfl⟩ := hp
      cases r with
      | nil => simp at h
      | cons d r => simp at h; subst h; exact ⟨r, by simp⟩
    · cases h
  · rintro ⟨r, rfl⟩
    rw [if_pos ⟨c :: r, by simp⟩]
    simp
theorem kidsS_ok (S : List (List Int)) : KidsOk S (kidsS S) := fun p =>
  ⟨sortI_rises (foldI_nodup _ _ List.nodup_nil), fun c => by
    unfold kidsS
    rw [(sortI_perm _).mem_iff, foldI_mem, List.mem_filterMap]
    simp only [List.not_mem_nil, false_or, nextC_iff]⟩
theorem rises_eq : ∀ {L M : List Int}, L.Pairwise (· < ·) → M.Pairwise (· < ·) → (∀ x, x ∈ L ↔ x ∈ M) → L = M
  | [], [], _, _, _ => rfl
  | [], y :: M, _, _, h => by have := (h y).2 (by simp); simp at this
  | x :: L, [], _, _, h => by have := (h x).1 (by simp); simp at this
  | x :: L, y :: M, h1, h2, h => by
    obtain ⟨a1, b1⟩ := List.pairwise_cons.1 h1
    obtain ⟨a2, b2⟩ := List.pairwise_cons.1 h2
    have e : x = y := by
      rcases List.mem_cons.1 ((h x).1 (by simp)) with e | hm
      · exact e
      · rcases List.mem_cons.1 ((h y).2 (by simp)) with e | hm'
        · exact e.symm
        · have := a1 y hm'; have := a2 x hm; omega
    subst e
    congr 1
    refine rises_eq b1 b2 fun z => ?_
    constructor
    · intro hz
      rcases List.mem_cons.1 ((h z).1 (by simp [hz])) with e | hm
      · subst e; have := a1 z hz; omega
      · exact hm
    · intro hz
      rcases List.mem_cons.1 ((h z).2 (by simp [hz])) with e | hm
      · subst e; have := a2 z hz; omega
      · exact hm
theorem FS_kid {S : List (List Int)} {p : List Int} {c : Int} : (FS S (p ++ [c])).isSome = true ↔ ∃ x ∈ S, p ++ [c] <+: x := by
  unfold FS
  by_cases h : ∃ x ∈ S, p ++ [c] <+: x
  · rw [if_pos (.inr h)]; simp [h]
  · rw [if_neg (fun h' => by rcases h' with h' | h'; simp at h'; exact h h')]; simp [h]
theorem kids_of {S : List (List Int)} {p O : List Int} (h1 : O.Pairwise (· < ·)) (h2 : ∀ x, x ∈ O ↔ (FS S (p ++ [x])).isSome = true) : O = kidsS S p :=
  rises_eq h1 ((kidsS_ok S p).1) fun x => by rw [h2, (kidsS_ok S p).2, FS_kid]

/-- What a round keeps: all that is not the caller's (M). -/
structure Kp (M : World → Nat → Prop) (W W' : World) : Prop where
  os : W'.os = W.os
  tape : W'.tape = W.tape
  output : W'.output = W.output
  size : W.heap.size ≤ W'.heap.size
  keep : ∀ k, k < W.heap.size → ¬ M W k → W'.heap[k]? = W.heap[k]? ∧ ¬ M W' k
theorem Kp.refl (M : World → Nat → Prop) (W : World) : Kp M W W := ⟨rfl, rfl, rfl, Nat.le_refl _, fun _ _ h => ⟨rfl, h⟩⟩
theorem Kp.trans {M : World → Nat → Prop} {A B C : World} (h : Kp M A B) (k : Kp M B C) : Kp M A C :=
  ⟨k.os.trans h.os, k.tape.trans h.tape, k.output.trans h.output, Nat.le_trans h.size k.size, fun j hj hm => by
    obtain ⟨h1, h2⟩ := h.keep j hj hm
    obtain ⟨h3, h4⟩ := k.keep j (Nat.lt_of_lt_of_le hj h.size) h2
    exact ⟨h3.trans h1, h4⟩⟩
/-- The caller's word between two rounds, J, and its blocks, M: new memory makes no difference. -/
structure Calm (M : World → Nat → Prop) (J : List (List Int) → World → Prop) (B0 : Nat) : Prop where
  ext : ∀ pre W W', J pre W → Ext W W' → J pre W'
  mine : ∀ pre W W' k, J pre W → Ext W W' → M W' k → M W k
  lt : ∀ pre W k, J pre W → M W k → k < W.heap.size
  low : ∀ pre W, J pre W → B0 ≤ W.heap.size
theorem Calm.kp {M : World → Nat → Prop} {J : List (List Int) → World → Prop} {B0 : Nat} (h : Calm M J B0) {pre : List (List Int)} {W W' : World} (hJ : J pre W) (he : Ext W W') : Kp M W W' :=
  ⟨Below.os he, Below.tape he, Below.output he, he.hsize, fun k hk hm => ⟨Below.block he k hk, fun h' => hm (h.mine _ _ _ k hJ he h')⟩⟩
theorem Calm.new {M : World → Nat → Prop} {J : List (List Int) → World → Prop} {B0 : Nat} (h : Calm M J B0) {pre : List (List Int)} {W W' : World} (hJ : J pre W) (he : Ext W W') {k : Nat} (hk : W.heap.size ≤ k) : ¬ M W' k := fun h' => by
  have := h.lt _ _ k hJ (h.mine _ _ _ k hJ he h')
  omega

/-- The trie, none of its blocks the caller's. -/
def TrK (M : World → Nat → Prop) (w : World) (b0 K : Nat) (F : TF) (ns : List Int → TrN) : Prop := TrIs w b0 K F ns ∧ ∀ p, (F p).isSome → ¬ M w (ns p).a ∧ ∀ m, (ns p).m = some m → ¬ M w m
theorem TrK.kp {M : World → Nat → Prop} {w w' : World} {b0 K : Nat} {F : TF} {ns : List Int → TrN} (h : TrK M w b0 K F ns) (hk : Kp M w w') : TrK M w' b0 K F ns := by
  obtain ⟨h, hm⟩ := h
  refine ⟨⟨h.root, h.up, fun p v hp => ?_, fun p hp => ?_, h.inj, h.injm⟩, fun p hp => ⟨(hk.keep _ (h.lt hp) (hm p hp).1).2, fun m e => (hk.keep _ (h.map e hp).2.lt ((hm p hp).2 m e)).2⟩⟩
  · obtain ⟨h1, h2, h3⟩ := h.node p v hp
    exact ⟨h1, (hk.keep _ h2.lt (hm p (by rw [hp]; rfl)).1).1.trans h2, h3⟩
  · have := h.kids p hp
    unfold MapAt at this ⊢
    split
    · rename_i e; rw [e] at this; exact this
    · rename_i m e
      rw [e] at this
      exact ⟨this.1, this.2.at (hk.keep _ this.2.lt ((hm p hp).2 m e)).1⟩
/-- A slice, its block not the caller's. -/
def SlT (M : World → Nat → Prop) (w : World) (A : Option Addr) (n c : Nat) (l : List Int) : Prop := Ints w A n c l ∧ (A = none → c = 0) ∧ n * 8 ≤ 140737488355328 ∧ (0 < n → ∀ ad, A = some ad → ¬ M w ad.block)
theorem SlT.kp {M : World → Nat → Prop} {w w' : World} {A : Option Addr} {n c : Nat} {l : List Int} (h : SlT M w A n c l) (hk : Kp M w w') : SlT M w' A n c l := by
  obtain ⟨⟨h1, h2, h3, h4⟩, h5, h6, h7⟩ := h
  have hn1 : l.length = n := by simpa using h1
  refine ⟨⟨h1, h2, h3, fun hn => ?_⟩, h5, h6, fun hn ad e => ?_⟩
  · obtain ⟨ad, e, hc⟩ := h4 hn
    refine ⟨ad, e, fun j u hu => ?_⟩
    have hcj := hc j u hu
    have hlt := World.block_lt_of_cell? w _ hcj
    rw [block_of_add] at hlt
    exact (World.cell?_of_block (by rw [block_of_add]; exact (hk.keep _ hlt (h7 hn ad e)).1)).trans hcj
  · obtain ⟨ad', e', hc⟩ := h4 hn
    rw [e] at e'
    injection e' with e'
    subst e'
    have hcj := hc 0 _ (List.getElem?_eq_getElem (by simp; omega))
    have hlt := World.block_lt_of_cell? w _ hcj
    rw [block_of_add] at hlt
    exact (hk.keep _ hlt (h7 hn ad e)).2
/-- A row of the call's own, made just now. -/
theorem OwnI.slT {M : World → Nat → Prop} {J : List (List Int) → World → Prop} {B0 : Nat} (hC : Calm M J B0) {pre : List (List Int)} {W W' : World} (hJ : J pre W) (he : Ext W W') {base n c : Nat} {A : Option Addr} {l : List Int} (h : OwnI W' base A n c l) (hb : W.heap.size ≤ base) (hn : n ≤ 100000) : SlT M W' A n c l :=
  ⟨h.ints, (by
    rintro rfl
    rcases h.2 with ⟨hv, _⟩ | ⟨g', cap, cur, hv, _⟩
    · injection hv
    · injection hv with h1; cases h1), by omega, fun _ ad e => by
    subst e
    exact hC.new hJ he (Nat.le_trans hb (Own.blk h ad.block rfl).1)⟩

theorem room_none {F : Fence} (hd : F.depth = none) (k : Nat) : F.room k := fun d h => by rw [hd] at h; cases h
theorem roundIn_any {F : Fence} (hd : F.depth = none) {m m' : Nat} {P : Program} {l : Nat} {f : FuncId} {tmps : Array Value} {assign body : Code} {w : World} {R : Ending → World → Prop}
    (h : RoundIn F m P l f tmps assign body w R) : RoundIn F m' P l f tmps assign body w R := ⟨h.1, fun c cs _ => h.2 c cs (room_none hd _)⟩

/-- What a round does with each word that comes. -/
def RoundsT (M : World → Nat → Prop) (B0 l : Nat) (all : List (List Int)) (J : List (List Int) → World → Prop) : Prop :=
  ∀ m pre x W A n c, J pre W → OwnI W B0 A n c x → (A = none → c = 0) → n ≤ 24 → (∀ g, (Value.slice A n c).ownBlock = some g → ¬ M W g) → pre ++ [x] <+: all → YieldAt Fence.wide m Try.prog l #[.slice A n c] W fun e W' => e = .returned (.bool true) ∧ J (pre ++ [x]) W' ∧ Kp M W W'

/-- 'append(own row, what reads as news)' in a drawn region. -/
theorem step_app {P : Program} {ops : Array Oper} {o : Oper} {a : Act} {K : Act → World → Prop} {Q : Exit → Act → World → Prop} {E : Prop} {w : World} (hgd : o.guard = none) (s x : Operand) (t : TypeId)
    (ho : o.op = .call { callee := .builtin .append, args := #[s, x], argTypes := #[t, t] })
    (base e : Nat) (i : TypeInfo) (zv : Value) (z bytes : Nat) (ht : P.underlying t = some (.slice e)) (hi : P.info? e = some i) (hz : i.zero = some zv)
    (hsize : i.size = z) (hby : i.bytes = bytes) (hzs : zv.cells.size = z) (hsz : 0 < z)
    (A : Option Addr) (n c : Nat) (xs : List Value) (hs : a.eval s = .slice A n c) (hown : Own w base e z A n c xs)
    (ad : Addr) (m d : Nat) (news : List Value) (hx : a.eval x = .slice (some ad) m d) (hl : news.length = m * z) (hr : ∀ j u, news[j]? = some u → w.cell? (ad.add j) = some u) (h1 : ∀ u ∈ news, u.oneCell' = true)
    (h63 : n + m ≤ maxLen) (hbytes : (n + m) * bytes ≤ 140737488355328) (hbase : base ≤ w.heap.size)
    (h : ∀ A' c' w', Own w' base e z A' (n + m) c' (xs ++ news) → w.grownBy w' (Value.slice A n c).ownBlock → K (a.put o.dst (.slice A' (n + m) c')) w') : if Region.wanted o (yielded ops a.tmps) = true then Oper.wp P o a w K Q else E := by
  have hw : Region.wanted o (yielded ops a.tmps) = true := by simp [Region.wanted, hgd]
  rw [if_pos hw]
  obtain ⟨v', w', hrun, h2, h3, _, h5⟩ := run_append_own_at (P := P) w base t o.type e i zv z bytes ht hi hz hsize hby hzs hsz (.slice A n c) n xs hown ad m d news hl hr h1 h63 hbytes hbase
  have hv : ∃ A' c', v' = .slice A' (n + m) c' := by
    rcases h2.2 with ⟨rfl, h0'⟩ | ⟨g, cap, cur, rfl, _⟩
    · exact ⟨none, 0, by rw [h0']⟩
    · exact ⟨_, _, rfl⟩
  obtain ⟨A', c', rfl⟩ := hv
  unfold Oper.wp execOp
  simp only [ho, resolve, invoke, builtin, Sem.run_bind, Sem.run_pure, Result.andThen_ok, List.map_toArray, List.map_cons, List.map_nil, hs, hx, hrun]
  exact h A' c' w' h2 h3
end Go.Proofs.Ytdkjkcegchohfaa
