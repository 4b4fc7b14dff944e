/-
  The trie in memory.
-/
import Derived.Test.YtdkjkcegchohfaaTriM
import Derived.Test.YtdkjkcegchohfaaMapO
namespace Go.Proofs.Ytdkjkcegchohfaa
open Go.RowKit
set_option linter.unusedVariables false
set_option linter.unusedSimpArgs false

/-- Where a node lies: its block, its map. -/
structure TrN where
  a : Nat
  m : Option Nat
def TrN.ptr (x : TrN) : Value := .pointer (some ⟨x.a, 0, none⟩)
def kidV (F : TF) (ns : List Int → TrN) (p : List Int) (c : Int) : Option Value := if (F (p ++ [c])).isSome then some (ns (p ++ [c])).ptr else none
def trC (m : Option Nat) (v : Bool × Nat) : Array Value := #[.map m, .bool v.1, .int .i64 v.2]
def MapAt (w : World) (b0 K : Nat) (F : TF) (ns : List Int → TrN) (p : List Int) : Prop :=
  match (ns p).m with
  | none => ∀ c, F (p ++ [c]) = none
  | some m => b0 ≤ m ∧ MapO w m K (kidV F ns p)
structure TrIs (w : World) (b0 K : Nat) (F : TF) (ns : List Int → TrN) : Prop where
  root : (F []).isSome
  up : ∀ p c, (F (p ++ [c])).isSome → (F p).isSome
  node : ∀ p v, F p = some v → b0 ≤ (ns p).a ∧ Blk w (ns p).a 97 (trC (ns p).m v) ∧ v.2 ≤ K
  kids : ∀ p, (F p).isSome → MapAt w b0 K F ns p
  inj : ∀ p q, (F p).isSome → (F q).isSome → (ns p).a = (ns q).a → p = q
  injm : ∀ p q m, (F p).isSome → (F q).isSome → (ns p).m = some m → (ns q).m = some m → p = q

theorem setF_some {F : TF} {p : List Int} {v : Bool × Nat} (hp : (F p).isSome) (q : List Int) : (setF F p v q).isSome = (F q).isSome := by
  unfold setF
  by_cases h : q = p
  · subst h; simp [hp]
  · simp [h]
theorem setF_same (F : TF) (p : List Int) (v : Bool × Nat) : setF F p v p = some v := by simp [setF]
theorem setF_other {F : TF} {p q : List Int} {v : Bool × Nat} (h : q ≠ p) : setF F p v q = F q := by simp [setF, h]

section
variable {w w' : World} {b0 K : Nat} {F : TF} {ns : List Int → TrN}
theorem TrIs.ext (h : TrIs w b0 K F ns) (he : Ext w w') : TrIs w' b0 K F ns :=
  ⟨h.root, h.up, fun p v hp => by obtain ⟨h1, h2, h3⟩ := h.node p v hp; exact ⟨h1, h2.ext he, h3⟩, fun p hp => by
    have := h.kids p hp
    unfold MapAt at this ⊢
    split
    · rename_i e; rw [e] at this; exact this
    · rename_i m e; rw [e] at this; exact ⟨this.1, this.2.at (Below.block he m this.2.lt)⟩, h.inj, h.injm⟩
theorem TrIs.mono (h : TrIs w b0 K F ns) {K' : Nat} (hk : K ≤ K') : TrIs w b0 K' F ns :=
  ⟨h.root, h.up, fun p v hp => by obtain ⟨h1, h2, h3⟩ := h.node p v hp; exact ⟨h1, h2, by omega⟩, fun p hp => by
    have := h.kids p hp
    unfold MapAt at this ⊢
    split
    · rename_i e; rw [e] at this; exact this
    · rename_i m e; rw [e] at this; exact ⟨this.1, this.2.mono hk⟩, h.inj, h.injm⟩
theorem TrIs.blk (h : TrIs w b0 K F ns) {p : List Int} {v : Bool × Nat} (hp : F p = some v) : Blk w (ns p).a 97 (trC (ns p).m v) := (h.node p v hp).2.1
/-- A node's block is no map. -/
theorem TrIs.ne (h : TrIs w b0 K F ns) {p q : List Int} (hp : (F p).isSome) {m : Nat} (hm : (ns q).m = some m) (hq : (F q).isSome) : m ≠ (ns p).a := by
  intro e
  obtain ⟨v, hv⟩ := Option.isSome_iff_exists.1 hp
  have h1 := h.blk hv
  have h2 := h.kids q hq
  unfold MapAt at h2
  rw [hm] at h2
  obtain ⟨es, clock, hb⟩ := h2.2.block
  unfold Blk at h1
  rw [← e, hb] at h1
  cases h1
theorem TrIs.map (h : TrIs w b0 K F ns) {q : List Int} {m : Nat} (hm : (ns q).m = some m) (hq : (F q).isSome) : b0 ≤ m ∧ MapO w m K (kidV F ns q) := by
  have h2 := h.kids q hq
  unfold MapAt at h2
  rw [hm] at h2
  exact h2
theorem setCell_block (w : World) (g i k : Nat) (u : Value) (h : k ≠ g) : (w.setCell ⟨g, i, none⟩ u).heap[k]? = w.heap[k]? := Below.heap_setCell w ⟨g, i, none⟩ u k h

/-- A node's word and size are set. -/
theorem TrIs.setv (h : TrIs w b0 K F ns) {p : List Int} {v v' : Bool × Nat} (hp : F p = some v) {i : Nat} {u : Value} (hcs : (trC (ns p).m v).setIfInBounds i u = trC (ns p).m v') (hv : v'.2 ≤ K) :
    TrIs (w.setCell ⟨(ns p).a, i, none⟩ u) b0 K (setF F p v') ns := by
  have hps : (F p).isSome := by rw [hp]; rfl
  have hk : kidV (setF F p v') ns = kidV F ns := by
    funext q c
    unfold kidV
    rw [setF_some hps]
  refine ⟨by rw [setF_some hps]; exact h.root, fun q c => by rw [setF_some hps, setF_some hps]; exact h.up q c, fun q x hq => ?_, fun q hq => ?_, fun q r => by rw [setF_some hps, setF_some hps]; exact h.inj q r, fun q r m => by rw [setF_some hps, setF_some hps]; exact h.injm q r m⟩
  · by_cases e : q = p
    · subst e
      rw [setF_same] at hq
      injection hq with hq
      subst hq
      refine ⟨(h.node _ _ hp).1, ?_, hv⟩
      rw [← hcs]
      exact (h.blk hp).set_ i u
    · rw [setF_other e] at hq
      obtain ⟨h1, h2, h3⟩ := h.node q x hq
      refine ⟨h1, ?_, h3⟩
      unfold Blk at h2 ⊢
      rw [setCell_block _ _ _ _ _ (fun e2 => e (h.inj q p (by rw [hq]; rfl) hps e2))]
      exact h2
  · rw [setF_some hps] at hq
    have := h.kids q hq
    unfold MapAt at this ⊢
    rw [hk]
    split
    · rename_i e; rw [e] at this
      intro c
      have := this c
      by_cases e2 : q ++ [c] = p
      · rw [e2] at this; rw [this] at hps; cases hps
      · rw [setF_other e2]; exact this
    · rename_i m e; rw [e] at this
      exact ⟨this.1, this.2.at (setCell_block _ _ _ _ _ (h.ne hps e hq))⟩

def nsM (ns : List Int → TrN) (p : List Int) (g : Nat) : List Int → TrN := fun q => if q = p then ⟨(ns p).a, some g⟩ else ns q
theorem nsM_a (ns : List Int → TrN) (p : List Int) (g : Nat) (q : List Int) : (nsM ns p g q).a = (ns q).a := by unfold nsM; split <;> simp_all
theorem nsM_same (ns : List Int → TrN) (p : List Int) (g : Nat) : (nsM ns p g p).m = some g := by simp [nsM]
theorem nsM_other (ns : List Int → TrN) {p q : List Int} (g : Nat) (h : q ≠ p) : nsM ns p g q = ns q := by simp [nsM, h]
theorem TrIs.lt (h : TrIs w b0 K F ns) {p : List Int} (hp : (F p).isSome) : (ns p).a < w.heap.size := by
  obtain ⟨v, hv⟩ := Option.isSome_iff_exists.1 hp
  exact (h.blk hv).lt
/-- A node gets its map. -/
theorem TrIs.makeM (h : TrIs w b0 K F ns) {p : List Int} {v : Bool × Nat} (hp : F p = some v) (hm : (ns p).m = none) (hb : b0 ≤ w.heap.size) :
    TrIs ((w.alloc (.map #[] 0)).setCell ⟨(ns p).a, 0, none⟩ (.map (some w.heap.size))) b0 K F (nsM ns p w.heap.size) := by
  have hps : (F p).isSome := by rw [hp]; rfl
  have hlt := h.lt hps
  have hk : kidV F (nsM ns p w.heap.size) = kidV F ns := by
    funext q c
    unfold kidV TrN.ptr
    rw [nsM_a]
  have hx := h.ext (Ext.alloc w (.map #[] 0))
  refine ⟨h.root, h.up, fun q x hq => ?_, fun q hq => ?_, fun q r hq hr => by rw [nsM_a, nsM_a]; exact h.inj q r hq hr, fun q r m hq hr e1 e2 => ?_⟩
  · by_cases e : q = p
    · subst e
      rw [hp] at hq
      injection hq with hq
      subst hq
      rw [nsM_a, nsM_same]
      refine ⟨(h.node _ _ hp).1, ?_, (h.node _ _ hp).2.2⟩
      have := (hx.blk hp).set_ 0 (.map (some w.heap.size))
      rw [hm] at this
      exact this
    · rw [nsM_other ns _ e]
      obtain ⟨h1, h2, h3⟩ := hx.node q x hq
      refine ⟨h1, ?_, h3⟩
      unfold Blk at h2 ⊢
      rw [setCell_block _ _ _ _ _ (fun e2 => e (h.inj q p (by rw [hq]; rfl) hps e2))]
      exact h2
  · unfold MapAt
    rw [hk]
    by_cases e : q = p
    · subst e
      rw [nsM_same]
      refine ⟨hb, ?_⟩
      have hn := h.kids q hq
      unfold MapAt at hn
      rw [hm] at hn
      have e0 : kidV F ns q = fun _ => none := by
        funext c
        unfold kidV
        rw [hn c]; rfl
      rw [e0]
      exact (((MapO.made w).mono (Nat.zero_le K)).at (setCell_block _ _ _ _ _ (by omega)))
    · rw [nsM_other ns _ e]
      have := hx.kids q hq
      unfold MapAt at this
      split
      · rename_i e3; rw [e3] at this; exact this
      · rename_i m e3; rw [e3] at this
        exact ⟨this.1, this.2.at (setCell_block _ _ _ _ _ (h.ne hps e3 hq))⟩
  · have hsz : ∀ s, (F s).isSome → (ns s).m ≠ some w.heap.size := fun s hs e => by
      have := (h.map e hs).2.lt
      omega
    by_cases e3 : q = p
    · by_cases e4 : r = p
      · rw [e3, e4]
      · subst e3
        rw [nsM_same] at e1
        rw [nsM_other ns _ e4, ← e1] at e2
        exact absurd e2 (hsz r hr)
    · by_cases e4 : r = p
      · subst e4
        rw [nsM_same] at e2
        rw [nsM_other ns _ e3, ← e2] at e1
        exact absurd e1 (hsz q hq)
      · rw [nsM_other ns _ e3] at e1
        rw [nsM_other ns _ e4] at e2
        exact h.injm q r m hq hr e1 e2

def nsK (ns : List Int → TrN) (p : List Int) (x : TrN) : List Int → TrN := fun q => if q = p then x else ns q
theorem nsK_same (ns : List Int → TrN) (p : List Int) (x : TrN) : nsK ns p x p = x := by simp [nsK]
theorem nsK_other (ns : List Int → TrN) {p q : List Int} (x : TrN) (h : q ≠ p) : nsK ns p x q = ns q := by simp [nsK, h]
/-- What is no map stays where a map is turned. -/
theorem blk_turned {w w' : World} {b g t : Nat} {cs : Array Value} {es : Array MapEntry} {clock : Nat} (h : Blk w g t cs) (hb : w.heap[b]? = some (.map es clock)) (hg : w.grownBy w' (some b)) : Blk w' g t cs :=
  h.grown hg (fun e => by injection e with e; subst e; unfold Blk at h; rw [hb] at h; cases h)
theorem snoc_ne (p : List Int) (c : Int) : p ≠ p ++ [c] := fun e => by have := congrArg List.length e; simp at this
/-- A node more. -/
theorem TrIs.addK {w1 : World} (h : TrIs w b0 K F ns) {p : List Int} {c : Int} {m : Nat} (hp : (F p).isSome) (hm : (ns p).m = some m) (hn : F (p ++ [c]) = none) (hb : b0 ≤ w.heap.size)
    (h1 : w1 = w.alloc (.cells (trC none (false, 0)) 97)) (hM : MapO w' m (K + 1) (updO (kidV F ns p) c (.pointer (some ⟨w.heap.size, 0, none⟩)))) (hg : w1.grownBy w' (some m)) :
    TrIs w' b0 (K + 1) (setF F (p ++ [c]) (false, 0)) (nsK ns (p ++ [c]) ⟨w.heap.size, none⟩) := by
  have hx : TrIs w1 b0 K F ns := by rw [h1]; exact h.ext (Ext.alloc _ _)
  obtain ⟨es, clock, hbm⟩ := (hx.map hm hp).2.block
  have hnew : Blk w1 w.heap.size 97 (trC none (false, 0)) := by rw [h1]; exact Blk.new w _ _
  have hne : ∀ q, (F q).isSome → q ≠ p ++ [c] := fun q hq e => by rw [e, hn] at hq; cases hq
  have hsome : ∀ q, (setF F (p ++ [c]) (false, 0) q).isSome = true ↔ (F q).isSome = true ∨ q = p ++ [c] := fun q => by
    unfold setF
    by_cases e : q = p ++ [c]
    · simp [e]
    · simp [e]
  have hkn : ∀ d, F (p ++ [c] ++ [d]) = none := fun d => by
    cases e : F (p ++ [c] ++ [d]) with
    | none => rfl
    | some v =>
      have := h.up (p ++ [c]) d (by rw [e]; rfl)
      rw [hn] at this; cases this
  have hne2 : ∀ q : List Int, ∀ d : Int, q ≠ p → q ++ [d] ≠ p ++ [c] := fun q d hq e => hq (List.append_inj_left' e rfl)
  have hold : ∀ q, q ≠ p → kidV (setF F (p ++ [c]) (false, 0)) (nsK ns (p ++ [c]) ⟨w.heap.size, none⟩) q = kidV F ns q := fun q hq => by
    funext d
    unfold kidV
    rw [setF_other (hne2 q d hq), nsK_other ns _ (hne2 q d hq)]
  refine ⟨(hsome _).2 (.inl h.root), fun q d hq => ?_, fun q x hq => ?_, fun q hq => ?_, fun q r hq hr e => ?_, fun q r mm hq hr e1 e2 => ?_⟩
  · rcases (hsome _).1 hq with hq | e
    · exact (hsome _).2 (.inl (h.up q d hq))
    · obtain rfl : q = p := List.append_inj_left' e rfl
      exact (hsome _).2 (.inl hp)
  · by_cases e : q = p ++ [c]
    · subst e
      rw [setF_same] at hq
      injection hq with hq
      subst hq
      rw [nsK_same]
      exact ⟨hb, blk_turned hnew hbm hg, Nat.zero_le _⟩
    · rw [setF_other e] at hq
      rw [nsK_other ns _ e]
      obtain ⟨k1, k2, k3⟩ := hx.node q x hq
      exact ⟨k1, blk_turned k2 hbm hg, by omega⟩
  · unfold MapAt
    by_cases e : q = p ++ [c]
    · subst e
      rw [nsK_same]
      intro d
      rw [setF_other (fun e => by have := congrArg List.length e; simp at this)]
      exact hkn d
    · rw [nsK_other ns _ e]
      have hq' : (F q).isSome = true := by
        rcases (hsome q).1 hq with h | h
        · exact h
        · exact absurd h e
      by_cases ep : q = p
      · subst ep
        rw [hm]
        refine ⟨(hx.map hm hp).1, ?_⟩
        have e0 : kidV (setF F (q ++ [c]) (false, 0)) (nsK ns (q ++ [c]) ⟨w.heap.size, none⟩) q = updO (kidV F ns q) c (.pointer (some ⟨w.heap.size, 0, none⟩)) := by
          funext d
          unfold kidV updO
          by_cases ed : d = c
          · subst ed
            rw [setF_same, nsK_same, if_pos rfl]; rfl
          · have : q ++ [d] ≠ q ++ [c] := fun e => ed (by have := List.append_cancel_left e; simpa using this)
            rw [setF_other this, nsK_other ns _ this, if_neg ed]
        rw [e0]
        exact hM
      · rw [hold q ep]
        have := hx.kids q hq'
        unfold MapAt at this
        split
        · rename_i e3; rw [e3] at this
          intro d
          rw [setF_other (hne2 q d ep)]; exact this d
        · rename_i m3 e3; rw [e3] at this
          refine ⟨this.1, (this.2.grown hg (fun e4 => ?_)).mono (Nat.le_succ K)⟩
          injection e4 with e4
          subst e4
          exact ep (h.injm q p m3 hq' hp e3 hm)
  · have hlt : ∀ s, (F s).isSome → (ns s).a ≠ w.heap.size := fun s hs e => by have := h.lt hs; omega
    by_cases e3 : q = p ++ [c]
    · by_cases e4 : r = p ++ [c]
      · rw [e3, e4]
      · subst e3
        rw [nsK_same, nsK_other ns _ e4] at e
        rcases (hsome r).1 hr with h5 | h5
        · exact absurd e.symm (hlt r h5)
        · exact absurd h5 e4
    · by_cases e4 : r = p ++ [c]
      · subst e4
        rw [nsK_same, nsK_other ns _ e3] at e
        rcases (hsome q).1 hq with h5 | h5
        · exact absurd e (hlt q h5)
        · exact absurd h5 e3
      · rw [nsK_other ns _ e3, nsK_other ns _ e4] at e
        rcases (hsome q).1 hq with h5 | h5
        · rcases (hsome r).1 hr with h6 | h6
          · exact h.inj q r h5 h6 e
          · exact absurd h6 e4
        · exact absurd h5 e3
  · by_cases e3 : q = p ++ [c]
    · subst e3; rw [nsK_same] at e1; cases e1
    · by_cases e4 : r = p ++ [c]
      · subst e4; rw [nsK_same] at e2; cases e2
      · rw [nsK_other ns _ e3] at e1
        rw [nsK_other ns _ e4] at e2
        rcases (hsome q).1 hq with h5 | h5
        · rcases (hsome r).1 hr with h6 | h6
          · exact h.injm q r mm h5 h6 e1 e2
          · exact absurd h6 e4
        · exact absurd h5 e3
end
/-- The empty trie. -/
theorem TrIs.start (w : World) : TrIs (w.alloc (.cells (trC none (false, 0)) 97)) w.heap.size 0 (FS []) (fun _ => ⟨w.heap.size, none⟩) := by
  have e : ∀ q, (FS [] q).isSome = true → q = [] := fun q h => by
    unfold FS at h
    by_cases hq : q = []
    · exact hq
    · simp [hq] at h
  refine ⟨rfl, fun p c h => absurd (e _ h) (by simp), fun p v hp => ?_, fun p hp => ?_, fun p q hp hq _ => (e p hp).trans (e q hq).symm, fun p q m hp hq h1 _ => by cases h1⟩
  · obtain rfl := e p (by rw [hp]; rfl)
    have : FS [] [] = some (false, 0) := by simp [FS]
    rw [this] at hp
    injection hp with hp
    subst hp
    exact ⟨Nat.le_refl _, Blk.new _ _ _, Nat.le_refl _⟩
  · unfold MapAt
    intro c
    unfold FS
    simp
end Go.Proofs.Ytdkjkcegchohfaa
