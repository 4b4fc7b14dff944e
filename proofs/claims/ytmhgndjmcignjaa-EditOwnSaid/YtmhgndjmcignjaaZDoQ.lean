/-
  edit.Do whatever the input; edit.Do with an operator.
-/
import Derived.Test.YtmhgndjmcignjaaZDoN
import Derived.Test.YtmhgndjmcignjaaZJ15

namespace Go.Proofs.Ytmhgndjmcignjaa
open Go.RowKit
set_option linter.unusedVariables false
set_option linter.unusedSimpArgs false

/-- A result in memory of the call's own. -/
structure ResIs (w : World) (b : Nat) (vs : Array Value) (m : List Int) (at_ md fk fa : Int) (rl : Nat → List Int) (e : List Spl) : Prop where
  size : vs.size = 33
  one : vs.all (·.oneCell') = true
  text : ∃ B q d, vs[0]? = some (.slice B q d) ∧ OwnI w b B q d m
  oat : vs[1]? = some (.int .i64 at_)
  regs : ∀ j, j < 27 → ∃ v, vs[2 + j]? = some v ∧ RegOw w b v (rl j)
  c29 : vs[29]? = some (.int .i64 fk)
  c30 : vs[30]? = some (.int .i64 fa)
  c31 : vs[31]? = some (.int .i64 md)
  edit : ∃ v, vs[32]? = some v ∧ EdOwn w b v e
  far : ∀ B q d, vs[0]? = some (.slice B q d) → ∀ g', (Value.slice B q d).ownBlock = some g' → (∀ j, j < 27 → ∀ v, vs[2 + j]? = some v → v.ownBlock ≠ some g') ∧ ∃ v, vs[32]? = some v ∧ EdOwn w (g' + 1) v e
theorem OutIs.res {w : World} {b b' : Nat} {cs : Array Value} {m : List Int} {at_ md fk fa : Int} {rl : Nat → List Int} {e : List Spl} (h : OutIs w b cs m at_ md fk fa rl e) (h1 : (cs.extract 34 67).all (·.oneCell') = true) (hb : b' ≤ b) : ResIs w b' (cs.extract 34 67) m at_ md fk fa rl e := by
  have hz := h.size
  have hx : ∀ k, k < 33 → (cs.extract 34 67)[k]? = cs[34 + k]? := fun k hk => by rw [Array.getElem?_extract, if_pos (by omega)]
  exact {
    size := by simp [hz]
    one := h1
    text := let ⟨B, q, d, h2, h3⟩ := h.text; ⟨B, q, d, by rw [hx 0 (by omega)]; exact h2, Own.lower h3 hb⟩
    oat := by rw [hx 1 (by omega)]; exact h.oat
    regs := fun j hj => let ⟨v, h2, h3⟩ := h.regs j hj; ⟨v, by rw [hx _ (by omega), show 34 + (2 + j) = 36 + j by omega]; exact h2, h3.lower hb⟩
    c29 := by rw [hx 29 (by omega)]; exact h.c63
    c30 := by rw [hx 30 (by omega)]; exact h.c64
    c31 := by rw [hx 31 (by omega)]; exact h.c65
    edit := let ⟨v, h2, h3⟩ := h.edit; ⟨v, by rw [hx 32 (by omega)]; exact h2, h3.lower hb⟩
    far := fun B q d h0 g' hg' => by
      rw [hx 0 (by omega)] at h0
      obtain ⟨h2, v, h3, h4⟩ := h.far B q d h0 g' hg'
      exact ⟨fun j hj u hu => by rw [hx _ (by omega), show 34 + (2 + j) = 36 + j by omega] at hu; exact h2 j hj u hu, v, by rw [hx 32 (by omega)]; exact h3, h4⟩ }
theorem ResIs.ext {w w' : World} {b : Nat} {vs : Array Value} {m : List Int} {at_ md fk fa : Int} {rl : Nat → List Int} {e : List Spl} (h : ResIs w b vs m at_ md fk fa rl e) (he : Ext w w') : ResIs w' b vs m at_ md fk fa rl e :=
  { h with
    text := let ⟨B, q, d, h1, h2⟩ := h.text; ⟨B, q, d, h1, Own.ext h2 he⟩
    regs := fun j hj => let ⟨v, h1, h2⟩ := h.regs j hj; ⟨v, h1, h2.ext he⟩
    edit := let ⟨v, h1, h2⟩ := h.edit; ⟨v, h1, h2.ext he⟩
    far := fun B q d h0 g' hg' => let ⟨h1, v, h2, h3⟩ := h.far B q d h0 g' hg'; ⟨h1, v, h2, h3.ext he⟩ }

/-- What Do lets by. -/
def ValidC (n : Nat) (a k1 fk k3 : Int) : Prop := (n ≤ 200 ∧ 0 ≤ a ∧ a ≤ max 0 ((n : Int) - 1)) ∧ (0 ≤ k1 ∧ k1 ≤ 999) ∧ FineC fk k3
theorem do_any {w : World} {A : Option Addr} {n c : Nat} {a fk fa k1 k2 k3 k4 k5 : Int} {l : List Int} {rs : Array Value} {rl : Nat → List Int} {Ok : Prop} {Post : World → Array Value → Prop} (hl : Ints w A n c l) (wl : ∀ x ∈ l, (Lit.int .i64 x).wf = true) (hA : A = none → c = 0) (hr : Regs w rs rl)
    (hP : ∀ w1 w2 cs, Post w1 cs → w1.grownBy w2 (some (w.heap.size + 1 + 1 + 1 + 1)) → Post w2 cs)
    (H1 : ValidC n a k1 fk k3 → ∀ (wz : World) (g : Nat) (cs : Array Value), w.heap.size + 5 ≤ g → CmdIn w wz g cs A n c a.toNat rs rl k1 k2 k3 k4 k5 fk fa l →
      Calls Try.prog 22 #[.pointer (some ⟨g, 0, none⟩)] wz (DoneIs g wz Ok Post)) :
    Calls Try.prog 8 #[.agg #[.slice A n c, .int .i64 a], .agg rs, .agg #[.int .i64 fk, .int .i64 fa], .agg #[.int .i64 k1, .int .i64 k2, .int .i64 k3, .int .i64 k4, .int .i64 k5]] w (DidIs w (ValidC n a k1 fk k3 ∧ Ok) Post) := by
  by_cases hv : (n ≤ 200 ∧ 0 ≤ a ∧ a ≤ max 0 ((n : Int) - 1)) ∧ (0 ≤ k1 ∧ k1 ≤ 999)
  · obtain ⟨⟨hn, ha, ha2⟩, hk, hk2⟩ := hv
    refine (do_walkF (Ok := Ok) (Post := Post) hl hA hr hn ha ha2 hk hk2 hP ?_).mono fun e w' ⟨h1, h2⟩ => ⟨h1, h2.imp (fun ⟨h3, h4⟩ => ⟨fun h => h3 ⟨h.1.2.2, h.2⟩, h4⟩) id⟩
    intro hf wz g cs B d hx hg hb hd ho hB
    refine H1 ⟨⟨hn, ha, ha2⟩, ⟨hk, hk2⟩, hf⟩ wz g cs hg ?_
    have hat : ((a.toNat : Nat) : Int) = a := by omega
    exact { blk := hb, doer := ⟨B, d, by rw [hat]; exact hd, ho⟩, ext := hx, base := by omega, regs := hr, line := hl, cap := hA, len := hn, place := by omega, nums := wl, cnt := ⟨hk, hk2⟩ }
  · refine (do_bad (Ok := ValidC n a k1 fk k3 ∧ Ok) (Post := Post) (Nat.le_trans hl.ncap hl.nmax) ?_ (fun h => hv ⟨h.1.1, h.1.2.1⟩))
    rcases Classical.em (n ≤ 200 ∧ 0 ≤ a ∧ a ≤ max 0 ((n : Int) - 1)) with h1 | h1
    · exact .inr (fun h2 => hv ⟨h1, h2⟩)
    · exact .inl h1

/-- The span that an operator is done to, and what was looked for then. -/
def OpSpan (l : List Int) (n a : Nat) (k1 o v k5 fk fa : Int) (f t : Nat) (whole : Bool) (zk za : Int) : Prop :=
  (isMv v = true ∧ whole = false ∧ ∃ mk ma, foundF' fk fa v k5 = some (mk, ma, zk, za) ∧ RangeIs l n a mk k1 ma f t) ∨ (isMv v = false ∧ zk = fk ∧ za = fa ∧ SpanIs l n a o v k5 f t whole)
def OpDone (b : Nat) (l : List Int) (n : Nat) (a : Int) (rl : Nat → List Int) (k1 k2 o v k5 fk fa : Int) (w : World) (cs : Array Value) : Prop :=
  ∃ g f t whole m at_ md zk za rl' e, b ≤ g ∧ f ≤ t ∧ t ≤ n ∧ OutIs w (g + 1) cs m at_ md zk za rl' e ∧ OpRel l a.toNat rl k2 o f t whole m at_ md rl' e ∧ OpSpan l n a.toNat k1 o v k5 fk fa f t whole zk za
theorem OnePost.op {g b n a : Nat} {l : List Int} {rl : Nat → List Int} {k1 k2 o v k5 fk fa : Int} {PPost : World → Array Value → Prop} {w : World} {cs : Array Value} (h : OnePost g l n a rl k1 k2 o v k5 fk fa PPost w cs) (ho : o ≠ 0) (hb : b ≤ g) (ha : a ≤ n - 1) : OpDone b l n a rl k1 k2 o v k5 fk fa w cs := by
  rcases h with ⟨hm, mk, ma, zk, za, hf, h | ⟨_, f, t, m, at_, md, rl', e, hr, h1, h2⟩⟩ | ⟨_, h, _⟩ | ⟨hm, _, f, t, whole, m, at_, md, rl', e, h1, h2, h3, h4, h5⟩
  · exact absurd h.1 ho
  · have hbd := hr.bd ha
    exact ⟨g, f, t, false, m, at_, md, zk, za, rl', e, hb, hbd.2.2.1, hbd.2.2.2, h1, h2, .inl ⟨hm, rfl, mk, ma, hf, hr⟩⟩
  · exact absurd h ho
  · exact ⟨g, f, t, whole, m, at_, md, fk, fa, rl', e, hb, h1, h2, h4, h5, .inr ⟨hm, rfl, rfl, h3⟩⟩

/-- edit.Do with an operator. -/
theorem do_op {w : World} {A : Option Addr} {n c : Nat} {a fk fa k1 k2 k3 k4 k5 : Int} {l : List Int} {rs : Array Value} {rl : Nat → List Int} (hl : Ints w A n c l) (wl : ∀ x ∈ l, (Lit.int .i64 x).wf = true) (hA : A = none → c = 0) (hr : Regs w rs rl) (hk : k3 ≠ 0) :
    Calls Try.prog 8 #[.agg #[.slice A n c, .int .i64 a], .agg rs, .agg #[.int .i64 fk, .int .i64 fa], .agg #[.int .i64 k1, .int .i64 k2, .int .i64 k3, .int .i64 k4, .int .i64 k5]] w fun e w' => Ext w w' ∧
      ((¬ (ValidC n a k1 fk k3 ∧ OneOk l n a.toNat rl k1 k2 k3 k4 k5 fk fa False) ∧ ∃ er, er ≠ 0 ∧ e = .returned (.tuple #[.agg resZ, .int .i64 er])) ∨
       ∃ vs f t whole m at_ md zk za rl' ed, e = .returned (.tuple #[.agg vs, .int .i64 0]) ∧ ValidC n a k1 fk k3 ∧ f ≤ t ∧ t ≤ n ∧ ResIs w' (w.heap.size + 5) vs m at_ md zk za rl' ed ∧ OpRel l a.toNat rl k2 k3 f t whole m at_ md rl' ed ∧ OpSpan l n a.toNat k1 k3 k4 k5 fk fa f t whole zk za) := by
  refine (do_any (Ok := OneOk l n a.toNat rl k1 k2 k3 k4 k5 fk fa False) (Post := fun w' cs => ValidC n a k1 fk k3 ∧ OpDone (w.heap.size + 5) l n a rl k1 k2 k3 k4 k5 fk fa w' cs) hl wl hA hr ?_ ?_).mono ?_
  · rintro w1 w2 cs ⟨hv, g, f, t, whole, m, at_, md, zk, za, rl', e, h1, h2, h3, h4, h5⟩ hg
    exact ⟨hv, g, f, t, whole, m, at_, md, zk, za, rl', e, h1, h2, h3, h4.grown hg (by omega), h5⟩
  · intro hv wz g cs hg hC
    have he : effF k3 k4 = (k3, k4) := by unfold effF; rw [if_neg hk]
    have h := one_walk (POk := False) (PPost := fun _ _ => False) hC hv.2.2.2 (fun _ h => by rw [he] at h; injection h with h; exact absurd h hk)
    rw [he] at h
    exact h.mono fun e w' h => h.from ⟨rfl, rfl, rfl, Nat.le_refl _, fun _ _ _ => rfl⟩ id (fun cs h => ⟨hv, h.op hk hg (by obtain ⟨⟨_, _, _⟩, _⟩ := hv; omega)⟩)
  · rintro e w' ⟨hx, h⟩
    refine ⟨hx, h.imp id ?_⟩
    rintro ⟨cs, hz, h1, h2, hv, g, f, t, whole, m, at_, md, zk, za, rl', e', h3, h4, h5, h6, h7, h8⟩
    exact ⟨_, f, t, whole, m, at_, md, zk, za, rl', e', h2, hv, h4, h5, h6.res h1 (by omega), h7, h8⟩
end Go.Proofs.Ytmhgndjmcignjaa
