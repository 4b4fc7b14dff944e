/-
  edit.Do whatever the command: what it comes to.
-/
import Derived.Test.YtmhgndjmcignjaaZDoQ
import Derived.Test.YtmhgndjmcignjaaZDoU

namespace Go.Proofs.Ytmhgndjmcignjaa
open Go.RowKit
set_option linter.unusedVariables false
set_option linter.unusedSimpArgs false

/-- What comes of the command that is done at last. -/
def DoRelV (l : List Int) (n a : Nat) (rl : Nat → List Int) (k1 k2 o v k5 fk fa : Int) (m : List Int) (at_ md zk za : Int) (rl' : Nat → List Int) (ed : List Spl) : Prop :=
  (isMv v = true ∧ ∃ mk ma, foundF' fk fa v k5 = some (mk, ma, zk, za) ∧ ((o = 0 ∧ GoIs l n a mk k1 ma at_ ∧ m = l ∧ md = 0 ∧ rl' = rl ∧ ed = []) ∨ (o ≠ 0 ∧ ∃ f t, RangeIs l n a mk k1 ma f t ∧ OpRel l a rl k2 o f t false m at_ md rl' ed))) ∨
  (isMv v = false ∧ o = 0 ∧ zk = fk ∧ za = fa ∧ rl' = rl ∧ PlainRel l n a rl k1 k2 v k5 m at_ md ed) ∨
  (isMv v = false ∧ o ≠ 0 ∧ zk = fk ∧ za = fa ∧ ∃ f t whole, f ≤ t ∧ t ≤ n ∧ SpanIs l n a o v k5 f t whole ∧ OpRel l a rl k2 o f t whole m at_ md rl' ed)
theorem OnePost.rel {g n a : Nat} {l : List Int} {rl : Nat → List Int} {k1 k2 o v v' k5 fk fa : Int} {w : World} {cs : Array Value} (h : OnePost g l n a rl k1 k2 o v k5 fk fa (PlainPost g l n a rl k1 k2 v' k5 fk fa) w cs) (hv : o = 0 → v' = v) :
    ∃ m at_ md zk za rl' e, OutIs w (g + 1) cs m at_ md zk za rl' e ∧ DoRelV l n a rl k1 k2 o v k5 fk fa m at_ md zk za rl' e := by
  rcases h with ⟨hm, mk, ma, zk, za, hf, ⟨ho, x, h1, h2⟩ | ⟨ho, f, t, m, at_, md, rl', e, hr, h1, h2⟩⟩ | ⟨hm, ho, m, at_, md, e, h1, h2⟩ | ⟨hm, ho, f, t, whole, m, at_, md, rl', e, h1, h2, h3, h4, h5⟩
  · exact ⟨_, _, _, _, _, _, _, h2, .inl ⟨hm, mk, ma, hf, .inl ⟨ho, h1, rfl, rfl, rfl, rfl⟩⟩⟩
  · exact ⟨_, _, _, _, _, _, _, h1, .inl ⟨hm, mk, ma, hf, .inr ⟨ho, f, t, hr, h2⟩⟩⟩
  · rw [hv ho] at h2
    exact ⟨_, _, _, _, _, _, _, h1, .inr (.inl ⟨hm, ho, rfl, rfl, rfl, h2⟩)⟩
  · exact ⟨_, _, _, _, _, _, _, h4, .inr (.inr ⟨hm, ho, rfl, rfl, f, t, whole, h1, h2, h3, h5⟩)⟩
theorem effF_zero {o v : Int} (h : (effF o v).1 = 0) : (effF o v).2 = v ∧ o = 0 := by
  unfold effF at h ⊢
  split
  · rename_i ho
    rw [if_pos ho] at h
    split
    · rename_i p hp
      rw [hp] at h
      have := shortF_op hp
      have h : p.1 = 0 := h
      omega
    · exact ⟨rfl, ho⟩
  · rename_i ho
    rw [if_neg ho] at h
    exact absurd h ho
def DoneRel (b : Nat) (l : List Int) (n a : Nat) (rl : Nat → List Int) (k1 k2 o v k5 fk fa : Int) (w : World) (cs : Array Value) : Prop :=
  ∃ g m at_ md zk za rl' e, b ≤ g ∧ OutIs w (g + 1) cs m at_ md zk za rl' e ∧ DoRelV l n a rl k1 k2 o v k5 fk fa m at_ md zk za rl' e
/-- edit.Do. -/
theorem do_full {w : World} {A : Option Addr} {n c : Nat} {a fk fa k1 k2 k3 k4 k5 : Int} {l : List Int} {rs : Array Value} {rl : Nat → List Int} (hl : Ints w A n c l) (wl : ∀ x ∈ l, (Lit.int .i64 x).wf = true) (hA : A = none → c = 0) (hr : Regs w rs rl) :
    Calls Try.prog 8 #[.agg #[.slice A n c, .int .i64 a], .agg rs, .agg #[.int .i64 fk, .int .i64 fa], .agg #[.int .i64 k1, .int .i64 k2, .int .i64 k3, .int .i64 k4, .int .i64 k5]] w fun e w' => Ext w w' ∧
      ((¬ (ValidC n a k1 fk k3 ∧ OneOk l n a.toNat rl k1 k2 (effF k3 k4).1 (effF k3 k4).2 k5 fk fa (PlainOk n a.toNat rl k1 k2 k4)) ∧ ∃ er, er ≠ 0 ∧ e = .returned (.tuple #[.agg resZ, .int .i64 er])) ∨
       ∃ vs m at_ md zk za rl' ed, e = .returned (.tuple #[.agg vs, .int .i64 0]) ∧ ValidC n a k1 fk k3 ∧ ResIs w' (w.heap.size + 5) vs m at_ md zk za rl' ed ∧ DoRelV l n a.toNat rl k1 k2 (effF k3 k4).1 (effF k3 k4).2 k5 fk fa m at_ md zk za rl' ed) := by
  refine (do_any (Ok := OneOk l n a.toNat rl k1 k2 (effF k3 k4).1 (effF k3 k4).2 k5 fk fa (PlainOk n a.toNat rl k1 k2 k4)) (Post := fun w' cs => ValidC n a k1 fk k3 ∧ DoneRel (w.heap.size + 5) l n a.toNat rl k1 k2 (effF k3 k4).1 (effF k3 k4).2 k5 fk fa w' cs) hl wl hA hr ?_ ?_).mono ?_
  · rintro w1 w2 cs ⟨hv, g, m, at_, md, zk, za, rl', e, h1, h2, h3⟩ hg
    exact ⟨hv, g, m, at_, md, zk, za, rl', e, h1, h2.grown hg (by omega), h3⟩
  · intro hv wz g cs hg hC
    have h := one_walk (POk := PlainOk n a.toNat rl k1 k2 k4) (PPost := PlainPost g l n a.toNat rl k1 k2 k4 k5 fk fa) hC hv.2.2.2 (fun _ _ wx he => plain_any (hC.wext he))
    exact h.mono fun e w' h => h.from ⟨rfl, rfl, rfl, Nat.le_refl _, fun _ _ _ => rfl⟩ id (fun cs h =>
      let ⟨m, at_, md, zk, za, rl', e, h1, h2⟩ := h.rel (fun h0 => (effF_zero h0).1.symm)
      ⟨hv, g, m, at_, md, zk, za, rl', e, hg, h1, h2⟩)
  · rintro e w' ⟨hx, h⟩
    refine ⟨hx, h.imp id ?_⟩
    rintro ⟨cs, hz, h1, h2, hv, g, m, at_, md, zk, za, rl', e', h3, h4, h5⟩
    exact ⟨_, m, at_, md, zk, za, rl', e', h2, hv, h4.res h1 (by omega), h5⟩
end Go.Proofs.Ytmhgndjmcignjaa
