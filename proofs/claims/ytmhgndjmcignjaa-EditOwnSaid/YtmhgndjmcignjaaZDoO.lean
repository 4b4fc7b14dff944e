/-
  The doer's operate: what is done to a span; and what a doer holds on the way.
-/
import Derived.Test.YtmhgndjmcignjaaZDoK
import Derived.Test.YtmhgndjmcignjaaZJ15

namespace Go.Proofs.Ytmhgndjmcignjaa
open Go.RowKit
set_option linter.unusedVariables false
set_option linter.unusedSimpArgs false

/-- What a command has made so far: cells 34 to 66 of the doer. -/
structure OutIs (w : World) (b : Nat) (cs : Array Value) (m : List Int) (at_ md fk fa : Int) (rl : Nat → List Int) (e : List Spl) : Prop where
  size : cs.size = 67
  text : ∃ B q d, cs[34]? = some (.slice B q d) ∧ OwnI w b B q d m
  oat : cs[35]? = some (.int .i64 at_)
  regs : ∀ j, j < 27 → ∃ v, cs[36 + j]? = some v ∧ RegOw w b v (rl j)
  c63 : cs[63]? = some (.int .i64 fk)
  c64 : cs[64]? = some (.int .i64 fa)
  c65 : cs[65]? = some (.int .i64 md)
  edit : ∃ v, cs[66]? = some v ∧ EdOwn w b v e
  far : ∀ B q d, cs[34]? = some (.slice B q d) → ∀ g', (Value.slice B q d).ownBlock = some g' → (∀ j, j < 27 → ∀ v, cs[36 + j]? = some v → v.ownBlock ≠ some g') ∧ ∃ v, cs[66]? = some v ∧ EdOwn w (g' + 1) v e
section
variable {w w' : World} {b g : Nat} {cs : Array Value} {m : List Int} {at_ md fk fa : Int} {rl : Nat → List Int} {e : List Spl}
theorem OutIs.one (h : OutIs w b cs m at_ md fk fa rl e) : ∀ k v, 34 ≤ k → cs[k]? = some v → v.oneCell' = true := by
  intro k v hk hv
  have hlt : k < 67 := by
    have := (Array.getElem?_eq_some_iff.1 hv).1
    rw [h.size] at this
    exact this
  by_cases h1 : k = 34
  · subst h1; obtain ⟨B, q, d, h2, _⟩ := h.text; rw [h2] at hv; injection hv with hv; subst hv; rfl
  · by_cases h2 : k = 35
    · subst h2; rw [h.oat] at hv; injection hv with hv; subst hv; rfl
    · by_cases h3 : k < 63
      · obtain ⟨u, hu, C, m, e, rfl, _⟩ := h.regs (k - 36) (by omega)
        rw [show 36 + (k - 36) = k by omega] at hu
        rw [hu] at hv; injection hv with hv; subst hv; rfl
      · have h4 : k = 63 ∨ k = 64 ∨ k = 65 ∨ k = 66 := by omega
        rcases h4 with rfl | rfl | rfl | rfl
        · rw [h.c63] at hv; injection hv with hv; subst hv; rfl
        · rw [h.c64] at hv; injection hv with hv; subst hv; rfl
        · rw [h.c65] at hv; injection hv with hv; subst hv; rfl
        · obtain ⟨u, hu, O, k, c, xs, row, rfl, _⟩ := h.edit
          rw [hu] at hv; injection hv with hv; subst hv; rfl
theorem OutIs.ext (h : OutIs w b cs m at_ md fk fa rl e) (he : Ext w w') : OutIs w' b cs m at_ md fk fa rl e :=
  { h with
    text := let ⟨B, q, d, h1, h2⟩ := h.text; ⟨B, q, d, h1, Own.ext h2 he⟩
    regs := fun j hj => let ⟨v, h1, h2⟩ := h.regs j hj; ⟨v, h1, h2.ext he⟩
    edit := let ⟨v, h1, h2⟩ := h.edit; ⟨v, h1, h2.ext he⟩
    far := fun B q d h34 g' hg' => let ⟨h1, v, h2, h3⟩ := h.far B q d h34 g' hg'; ⟨h1, v, h2, h3.ext he⟩ }
theorem RegOw.grown {v : Value} {l : List Int} (h : RegOw w b v l) (hg : w.grownBy w' (some g)) (hb : g < b) : RegOw w' b v l :=
  h.kept hg (fun k hk e => by injection e with e; have := (h.blk k hk).1; omega)
theorem OwnI.grown {B : Option Addr} {q d : Nat} {l : List Int} (h : OwnI w b B q d l) (hg : w.grownBy w' (some g)) (hb : g < b) : OwnI w' b B q d l := by
  refine Own.kept h hg ?_
  cases hb : (Value.slice B q d).ownBlock with
  | none => exact .inl rfl
  | some k => exact .inr (fun e => by injection e with e; have := (Own.blk h k hb).1; omega)
theorem EdOwn.grown {v : Value} (h : EdOwn w b v e) (hg : w.grownBy w' (some g)) (hb : g < b) : EdOwn w' b v e :=
  h.kept hg (fun k e => by injection e with e; omega)
/-- What is turned lies below. -/
theorem OutIs.grown (h : OutIs w b cs m at_ md fk fa rl e) (hg : w.grownBy w' (some g)) (hb : g < b) : OutIs w' b cs m at_ md fk fa rl e :=
  { h with
    text := let ⟨B, q, d, h1, h2⟩ := h.text; ⟨B, q, d, h1, h2.grown hg hb⟩
    regs := fun j hj => let ⟨v, h1, h2⟩ := h.regs j hj; ⟨v, h1, h2.grown hg hb⟩
    edit := let ⟨v, h1, h2⟩ := h.edit; ⟨v, h1, h2.grown hg hb⟩
    far := fun B q d h34 g' hg' => by
      obtain ⟨h1, v, h2, h3⟩ := h.far B q d h34 g' hg'
      obtain ⟨B', q', d', h4, h5⟩ := h.text
      rw [h34] at h4
      injection h4 with h4
      injection h4 with e1 e2 e3
      subst e1; subst e2; subst e3
      have := (Own.blk h5 g' hg').1
      exact ⟨h1, v, h2, h3.grown hg (by omega)⟩ }
theorem get_set_ne {i k : Nat} {u : Value} (h : i ≠ k) : (cs.setIfInBounds i u)[k]? = cs[k]? := Array.getElem?_setIfInBounds_ne h
theorem get_set_eq {i : Nat} {u : Value} (h : i < cs.size) : (cs.setIfInBounds i u)[i]? = some u := by
  rw [Array.getElem?_setIfInBounds_self, if_pos h]
theorem OutIs.setAt (h : OutIs w b cs m at_ md fk fa rl e) (x : Int) : OutIs w b (cs.setIfInBounds 35 (.int .i64 x)) m x md fk fa rl e where
  size := by simp [h.size]
  text := by rw [get_set_ne (by omega)]; exact h.text
  oat := get_set_eq (by rw [h.size]; omega)
  regs := fun j hj => by rw [get_set_ne (by omega)]; exact h.regs j hj
  c63 := by rw [get_set_ne (by omega)]; exact h.c63
  c64 := by rw [get_set_ne (by omega)]; exact h.c64
  c65 := by rw [get_set_ne (by omega)]; exact h.c65
  edit := by rw [get_set_ne (by omega)]; exact h.edit
  far := fun B q d h34 g' hg' => by
    rw [get_set_ne (by omega)] at h34
    obtain ⟨h1, v, h2, h3⟩ := h.far B q d h34 g' hg'
    exact ⟨fun j hj v hv => by rw [get_set_ne (by omega)] at hv; exact h1 j hj v hv, v, by rw [get_set_ne (by omega)]; exact h2, h3⟩
theorem OutIs.setMode (h : OutIs w b cs m at_ md fk fa rl e) (x : Int) : OutIs w b (cs.setIfInBounds 65 (.int .i64 x)) m at_ x fk fa rl e where
  size := by simp [h.size]
  text := by rw [get_set_ne (by omega)]; exact h.text
  oat := by rw [get_set_ne (by omega)]; exact h.oat
  regs := fun j hj => by rw [get_set_ne (by omega)]; exact h.regs j hj
  c63 := by rw [get_set_ne (by omega)]; exact h.c63
  c64 := by rw [get_set_ne (by omega)]; exact h.c64
  c65 := get_set_eq (by rw [h.size]; omega)
  edit := by rw [get_set_ne (by omega)]; exact h.edit
  far := fun B q d h34 g' hg' => by
    rw [get_set_ne (by omega)] at h34
    obtain ⟨h1, v, h2, h3⟩ := h.far B q d h34 g' hg'
    exact ⟨fun j hj v hv => by rw [get_set_ne (by omega)] at hv; exact h1 j hj v hv, v, by rw [get_set_ne (by omega)]; exact h2, h3⟩
theorem OutIs.setPut (h : OutIs w b cs m at_ md fk fa rl e) {B : Option Addr} {q d : Nat} {v : Value} {m' : List Int} {e' : List Spl} (ho : OwnI w b B q d m') (he : EdOwn w b v e') (hfr : ∀ g', (Value.slice B q d).ownBlock = some g' → (∀ j, j < 27 → ∀ v, cs[36 + j]? = some v → v.ownBlock ≠ some g') ∧ EdOwn w (g' + 1) v e') :
    OutIs w b ((cs.setIfInBounds 66 v).setIfInBounds 34 (.slice B q d)) m' at_ md fk fa rl e' where
  size := by simp [h.size]
  text := ⟨B, q, d, get_set_eq (by simp [h.size]), ho⟩
  oat := by rw [get_set_ne (by omega), get_set_ne (by omega)]; exact h.oat
  regs := fun j hj => by rw [get_set_ne (by omega), get_set_ne (by omega)]; exact h.regs j hj
  c63 := by rw [get_set_ne (by omega), get_set_ne (by omega)]; exact h.c63
  c64 := by rw [get_set_ne (by omega), get_set_ne (by omega)]; exact h.c64
  c65 := by rw [get_set_ne (by omega), get_set_ne (by omega)]; exact h.c65
  edit := ⟨v, by rw [get_set_ne (by omega)]; exact get_set_eq (by rw [h.size]; omega), he⟩
  far := fun B' q' d' h34 g' hg' => by
    rw [get_set_eq (by simp [h.size])] at h34
    injection h34 with h34
    injection h34 with e1 e2 e3
    subst e1; subst e2; subst e3
    obtain ⟨h1, h2⟩ := hfr g' hg'
    exact ⟨fun j hj v hv => by rw [get_set_ne (by omega), get_set_ne (by omega)] at hv; exact h1 j hj v hv, v, by rw [get_set_ne (by omega)]; exact get_set_eq (by rw [h.size]; omega), h2⟩
theorem OutIs.setRegs (h : OutIs w b cs m at_ md fk fa rl e) {ds : Array Value} {rl' : Nat → List Int} (hr : RegsO w b ds rl') (hfr : ∀ B q d, cs[34]? = some (.slice B q d) → ∀ g', (Value.slice B q d).ownBlock = some g' → ∀ j, j < 27 → ∀ v, ds[j]? = some v → v.ownBlock ≠ some g') : OutIs w b (seg cs 36 ds) m at_ md fk fa rl' e := by
  have hz : 36 + ds.size ≤ cs.size := by rw [hr.1, h.size]; omega
  exact {
    size := by rw [seg_size hz]; exact h.size
    text := by rw [seg_get hz, if_pos (by omega)]; exact h.text
    oat := by rw [seg_get hz, if_pos (by omega)]; exact h.oat
    regs := fun j hj => by rw [seg_get hz, if_neg (by omega), if_pos (by rw [hr.1]; omega), show 36 + j - 36 = j by omega]; exact hr.2 j hj
    c63 := by rw [seg_get hz, if_neg (by omega), if_neg (by rw [hr.1]; omega)]; exact h.c63
    c64 := by rw [seg_get hz, if_neg (by omega), if_neg (by rw [hr.1]; omega)]; exact h.c64
    c65 := by rw [seg_get hz, if_neg (by omega), if_neg (by rw [hr.1]; omega)]; exact h.c65
    edit := by rw [seg_get hz, if_neg (by omega), if_neg (by rw [hr.1]; omega)]; exact h.edit
    far := fun B q d h34 g' hg' => by
      rw [seg_get hz, if_pos (by omega)] at h34
      obtain ⟨_, v, h2, h3⟩ := h.far B q d h34 g' hg'
      refine ⟨fun j hj v hv => ?_, v, by rw [seg_get hz, if_neg (by omega), if_neg (by rw [hr.1]; omega)]; exact h2, h3⟩
      rw [seg_get hz, if_neg (by omega), if_pos (by rw [hr.1]; omega), show 36 + j - 36 = j by omega] at hv
      exact hfr B q d h34 g' hg' j hj v hv }
theorem DoerIs.out' {n c d : Nat} {A B : Option Addr} {a k1 k2 k3 k4 k5 : Int} {rs : Array Value} {l : List Int} (h : DoerIs w g cs A n c a rs rl k1 k2 k3 k4 k5 fk fa B d) (ho : OwnI w (g + 1) B n d l) : OutIs w (g + 1) cs l a 0 fk fa rl [] where
  size := h.size
  text := ⟨B, n, d, h.out, ho⟩
  oat := h.oat
  regs := h.oregs
  c63 := h.c63
  c64 := h.c64
  c65 := h.c65
  edit := ⟨_, h.c66, EdOwn.nil _ _⟩
  far := fun B' q' d' h34 g' hg' => by
    rw [h.out] at h34
    injection h34 with h34
    injection h34 with e1 e2 e3
    subst e1; subst e2; subst e3
    exact ⟨fun j hj v hv => h.far j hj v hv g' hg', _, h.c66, EdOwn.nil _ _⟩
end
/-- The doer on the way: what it was given has stayed. -/
structure MidIs (w0 : World) (g : Nat) (cs0 : Array Value) (w : World) (cs : Array Value) (m : List Int) (at_ md fk fa : Int) (rl : Nat → List Int) (e : List Spl) : Prop where
  blk : Blk w g 57 cs
  out : OutIs w (g + 1) cs m at_ md fk fa rl e
  same : ∀ k, k < 34 → cs[k]? = cs0[k]?
  grown : w0.grownBy w (some g)
section
variable {w0 w w' : World} {g : Nat} {cs0 cs : Array Value} {m : List Int} {at_ md fk fa : Int} {rl : Nat → List Int} {e : List Spl}
theorem MidIs.ext (h : MidIs w0 g cs0 w cs m at_ md fk fa rl e) (he : Ext w w') : MidIs w0 g cs0 w' cs m at_ md fk fa rl e :=
  ⟨h.blk.ext he, h.out.ext he, h.same, grows_trans h.grown (ext_grows he _)⟩
theorem MidIs.cell (h : MidIs w0 g cs0 w cs m at_ md fk fa rl e) {k : Nat} {v : Value} (hk : k < 34) (hv : cs0[k]? = some v) : w.cell? ⟨g, k, none⟩ = some v := by
  rw [h.blk.cell k, h.same k hk]; exact hv
theorem MidIs.oat (h : MidIs w0 g cs0 w cs m at_ md fk fa rl e) : w.cell? ⟨g, 35, none⟩ = some (.int .i64 at_) := (h.blk.cell 35).trans h.out.oat
theorem MidIs.mode (h : MidIs w0 g cs0 w cs m at_ md fk fa rl e) : w.cell? ⟨g, 65, none⟩ = some (.int .i64 md) := (h.blk.cell 65).trans h.out.c65
theorem MidIs.text (h : MidIs w0 g cs0 w cs m at_ md fk fa rl e) : ∃ B d, w.cell? ⟨g, 34, none⟩ = some (.slice B m.length d) ∧ OwnI w (g + 1) B m.length d m := by
  obtain ⟨B, q, d, h1, h2⟩ := h.out.text
  have hq : m.length = q := h2.ints.len
  rw [hq]
  exact ⟨B, d, (h.blk.cell 34).trans h1, h2⟩
theorem MidIs.setAt (h : MidIs w0 g cs0 w cs m at_ md fk fa rl e) (x : Int) : MidIs w0 g cs0 (w.setCell ⟨g, 35, none⟩ (.int .i64 x)) (cs.setIfInBounds 35 (.int .i64 x)) m x md fk fa rl e :=
  ⟨h.blk.set_ 35 _, (h.out.grown (set_grows w ⟨g, 35, none⟩ _) (Nat.lt_succ_self g)).setAt x, fun k hk => by rw [get_set_ne (by omega)]; exact h.same k hk, grows_trans h.grown (set_grows w ⟨g, 35, none⟩ _)⟩
theorem MidIs.setMode (h : MidIs w0 g cs0 w cs m at_ md fk fa rl e) (x : Int) : MidIs w0 g cs0 (w.setCell ⟨g, 65, none⟩ (.int .i64 x)) (cs.setIfInBounds 65 (.int .i64 x)) m at_ x fk fa rl e :=
  ⟨h.blk.set_ 65 _, (h.out.grown (set_grows w ⟨g, 65, none⟩ _) (Nat.lt_succ_self g)).setMode x, fun k hk => by rw [get_set_ne (by omega)]; exact h.same k hk, grows_trans h.grown (set_grows w ⟨g, 65, none⟩ _)⟩
theorem MidIs.start {n c d : Nat} {A B : Option Addr} {a k1 k2 k3 k4 k5 : Int} {rs : Array Value} {l : List Int} (hb : Blk w g 57 cs) (h : DoerIs w g cs A n c a rs rl k1 k2 k3 k4 k5 fk fa B d) (ho : OwnI w (g + 1) B n d l) : MidIs w g cs w cs l a 0 fk fa rl [] :=
  ⟨hb, h.out' ho, fun _ _ => rfl, ⟨rfl, rfl, rfl, Nat.le_refl _, fun _ _ _ => rfl⟩⟩
theorem MidIs.put (h : MidIs w0 g cs0 w cs m at_ md fk fa rl e) {l x : List Int} (hp : PutIs w g cs l x w') : ∃ cs' e', MidIs w0 g cs0 w' cs' x at_ md fk fa rl e' ∧ EdMakes l x e' := by
  obtain ⟨hg, B, q, b, O, k, z, e', h1, h2, h3, h4, h5⟩ := hp
  have hgw := h.blk.lt
  refine ⟨_, e', ⟨h1, (h.out.grown hg (Nat.lt_succ_self g)).setPut (Own.lower h2 hgw) (h3.lower hgw) (fun g' hg' => ⟨fun j hj v hv hvg => by
    obtain ⟨v', hv', hr'⟩ := h.out.regs j hj
    rw [hv'] at hv
    injection hv with hv
    subst hv
    have := (hr'.blk g' hvg).2
    have := (Own.blk h2 g' hg').1
    omega, h5 g' hg'⟩), fun k hk => ?_, grows_trans h.grown hg⟩, h4⟩
  rw [get_set_ne (by omega), get_set_ne (by omega)]
  exact h.same k hk
theorem MidIs.done (h : MidIs w0 g cs0 w cs m at_ md fk fa rl e) {Ok : Prop} {Post : World → Array Value → Prop} (hp : Post w cs) : DoneIs g w0 Ok Post (.returned (.int .i64 0)) w :=
  ⟨0, cs, rfl, h.grown, fun _ => rfl, fun _ => ⟨h.blk, h.out.size, h.out.one, hp⟩⟩
theorem MidIs.fail (h : MidIs w0 g cs0 w cs m at_ md fk fa rl e) {Ok : Prop} {Post : World → Array Value → Prop} {x : Int} (hx : x ≠ 0) (ho : ¬ Ok) : DoneIs g w0 Ok Post (.returned (.int .i64 x)) w :=
  ⟨x, cs, rfl, h.grown, fun h => absurd h ho, fun h => absurd h hx⟩
end

theorem Ext.turned {v0 w w' : World} {g : Nat} (h : Ext v0 w) (hg : w.grownBy w' (some g)) (hb : v0.heap.size ≤ g) : Ext v0 w' :=
  ⟨hg.os.trans (Below.os h), hg.tape.trans (Below.tape h), hg.output.trans (Below.output h), Nat.le_trans h.hsize hg.size, fun k hk => (hg.block k (Nat.lt_of_lt_of_le hk h.hsize) (fun e => by injection e with e; omega)).trans (Below.block h k hk)⟩
/-- All that stands when a command is to be done. -/
structure CmdIn (v0 w : World) (g : Nat) (cs : Array Value) (A : Option Addr) (n c a : Nat) (rs : Array Value) (rl : Nat → List Int) (k1 k2 k3 k4 k5 fk fa : Int) (l : List Int) : Prop where
  blk : Blk w g 57 cs
  doer : ∃ B d, DoerIs w g cs A n c (a : Int) rs rl k1 k2 k3 k4 k5 fk fa B d ∧ OwnI w (g + 1) B n d l
  ext : Ext v0 w
  base : v0.heap.size ≤ g
  regs : Regs v0 rs rl
  line : Ints v0 A n c l
  cap : A = none → c = 0
  len : n ≤ 200
  place : a ≤ n - 1
  nums : ∀ x ∈ l, (Lit.int .i64 x).wf = true
  cnt : 0 ≤ k1 ∧ k1 ≤ 999
section
variable {v0 w w' : World} {g : Nat} {cs : Array Value} {A : Option Addr} {n c a : Nat} {rs : Array Value} {rl : Nat → List Int} {k1 k2 k3 k4 k5 fk fa : Int} {l : List Int}
theorem CmdIn.mid (h : CmdIn v0 w g cs A n c a rs rl k1 k2 k3 k4 k5 fk fa l) : MidIs w g cs w cs l a 0 fk fa rl [] :=
  let ⟨_, _, h1, h2⟩ := h.doer; MidIs.start h.blk h1 h2
theorem CmdIn.wext (h : CmdIn v0 w g cs A n c a rs rl k1 k2 k3 k4 k5 fk fa l) (he : Ext w w') : CmdIn v0 w' g cs A n c a rs rl k1 k2 k3 k4 k5 fk fa l :=
  { h with
    blk := h.blk.ext he
    doer := let ⟨B, d, h1, h2⟩ := h.doer; ⟨B, d, { h1 with oregs := fun j hj => let ⟨v, h3, h4⟩ := h1.oregs j hj; ⟨v, h3, h4.ext he⟩ }, Own.ext h2 he⟩
    ext := h.ext.trans he }
theorem CmdIn.cells (h : CmdIn v0 w g cs A n c a rs rl k1 k2 k3 k4 k5 fk fa l) : cs[0]? = some (.slice A n c) ∧ cs[1]? = some (.int .i64 (a : Int)) ∧ (∀ j, j < 27 → cs[2 + j]? = rs[j]?) ∧ cs[29]? = some (.int .i64 k1) ∧ cs[30]? = some (.int .i64 k2) ∧ cs[31]? = some (.int .i64 k3) ∧ cs[32]? = some (.int .i64 k4) ∧ cs[33]? = some (.int .i64 k5) :=
  let ⟨_, _, h1, _⟩ := h.doer; ⟨h1.text, h1.at_, h1.regs, h1.c29, h1.c30, h1.c31, h1.c32, h1.c33⟩
end

/-- What goes into a register, if something does. -/
def KeepOk (rl : Nat → List Int) (k2 : Int) (f t : Nat) (x : List Int) : Prop := f < t → ∃ i m, regNo k2 = some (i, m) ∧ ¬ putBig rl i m x
def KeepRel (rl : Nat → List Int) (k2 : Int) (f t : Nat) (x : List Int) (rl' : Nat → List Int) : Prop := (f = t → rl' = rl) ∧ (f < t → ∃ i m, regNo k2 = some (i, m) ∧ ¬ putBig rl i m x ∧ rl' = putF rl i m x)
/-- What operate makes. -/
def OpRel (l : List Int) (a : Int) (rl : Nat → List Int) (k2 k3 : Int) (f t : Nat) (whole : Bool) (m : List Int) (at_ md : Int) (rl' : Nat → List Int) (e : List Spl) : Prop :=
  (f = t → k3 = 99) ∧ KeepRel rl k2 f t ((l.drop f).take (t - f)) rl' ∧
  ((k3 = 121 ∧ m = l ∧ md = 0 ∧ e = [] ∧ at_ = (if whole = true then a else min (f : Int) a)) ∨
   (k3 ≠ 121 ∧ m = l.take f ++ l.drop t ∧ EdMakes l m e ∧ ((k3 = 99 ∧ at_ = f ∧ md = 1) ∨ (k3 ≠ 99 ∧ md = 0 ∧ at_ = max 0 (min (f : Int) ((m.length : Int) - 1))))))
def OpOk (l : List Int) (rl : Nat → List Int) (k2 k3 : Int) (f t : Nat) : Prop := (f = t → k3 = 99) ∧ KeepOk rl k2 f t ((l.drop f).take (t - f))
/-- What a doer holds behind an operation. -/
def OpPost (g : Nat) (l : List Int) (a : Int) (rl : Nat → List Int) (k2 k3 fk fa : Int) (f t : Nat) (whole : Bool) (w : World) (cs : Array Value) : Prop :=
  ∃ m at_ md rl' e, OutIs w (g + 1) cs m at_ md fk fa rl' e ∧ OpRel l a rl k2 k3 f t whole m at_ md rl' e

theorem put_mid {w0 w : World} {g n c f t q d : Nat} {cs0 cs : Array Value} {m l x : List Int} {A T : Option Addr} {at_ md fk fa : Int} {rl : Nat → List Int} {e : List Spl} (h : MidIs w0 g cs0 w cs m at_ md fk fa rl e) (h0 : cs0[0]? = some (.slice A n c)) (hl : Ints w A n c l) (hx : Ints w T q d x) (hT : T = none → d = 0)
    (hft : f ≤ t) (htn : t ≤ n) (hn : n ≤ 200) (hm : q ≤ 3000) :
    Calls Try.prog 45 #[.pointer (some ⟨g, 0, none⟩), .int .i64 (f : Int), .int .i64 (t : Int), .slice T q d] w fun en w' => (∃ u, en = .returned u) ∧ ∃ cs' e', MidIs w0 g cs0 w' cs' (l.take f ++ x ++ l.drop t) at_ md fk fa rl e' ∧ EdMakes l (l.take f ++ x ++ l.drop t) e' := by
  obtain ⟨B, _, _, h34, _⟩ := h.out.text
  obtain ⟨v66, h66, _⟩ := h.out.edit
  exact (put_doer h.blk ((h.same 0 (by omega)).trans h0) h34 h66 hl hx hT hft htn hn hm).mono fun en w' ⟨h1, h2⟩ => ⟨h1, h.put h2⟩
theorem keep_mid {w0 w : World} {g n c f t : Nat} {cs0 cs rs : Array Value} {m l : List Int} {A : Option Addr} {at_ md fk fa k2 : Int} {rl rl0 : Nat → List Int} {e : List Spl} (h : MidIs w0 g cs0 w cs m at_ md fk fa rl0 e) (h0 : cs0[0]? = some (.slice A n c)) (h30 : cs0[30]? = some (.int .i64 k2)) (hrs : ∀ j, j < 27 → cs0[2 + j]? = rs[j]?) (hr : Regs w rs rl) (hl : Ints w A n c l) (hA : A = none → c = 0) (hft : f ≤ t) (htn : t ≤ n) (hn : n ≤ 200) :
    Calls Try.prog 44 #[.pointer (some ⟨g, 0, none⟩), .int .i64 (f : Int), .int .i64 (t : Int)] w fun en w' => ∃ x, en = .returned (.int .i64 x) ∧ w.grownBy w' (some g) ∧ ((∃ i m, regNo k2 = some (i, m) ∧ ¬ putBig rl i m ((l.drop f).take (t - f))) → x = 0) ∧ (x = 0 → ∃ cs' rl', MidIs w0 g cs0 w' cs' m at_ md fk fa rl' e ∧ ∃ i m, regNo k2 = some (i, m) ∧ ¬ putBig rl i m ((l.drop f).take (t - f)) ∧ rl' = putF rl i m ((l.drop f).take (t - f))) := by
  refine (keep_ok h.blk h.out.size ((h.same 0 (by omega)).trans h0) ((h.same 30 (by omega)).trans h30) (fun j hj => (h.same _ (by omega)).trans (hrs j hj)) hr hl hA hft htn hn).mono ?_
  rintro en w' ⟨x, h1, h2, h3, h4⟩
  refine ⟨x, h1, h2, h3, fun hx => ?_⟩
  obtain ⟨ds, rl', hb, hR, hO⟩ := h4 hx
  have hgw := h.blk.lt
  refine ⟨_, rl', ⟨hb, (h.out.grown h2 (Nat.lt_succ_self g)).setRegs (hR.lower hgw) (fun B q d h34 g' hg' j hj v hv hvg => by
    obtain ⟨v', hv', hr'⟩ := hR.2 j hj
    rw [hv'] at hv
    injection hv with hv
    subst hv
    have := (hr'.blk g' hvg).1
    obtain ⟨B', q', d', h4, h5⟩ := h.out.text
    rw [h34] at h4
    injection h4 with h4
    injection h4 with e1 e2 e3
    subst e1; subst e2; subst e3
    have := (Own.blk h5 g' hg').2
    omega), fun k hk => ?_, grows_trans h.grown h2⟩, hO⟩
  rw [seg_get (by rw [hR.1, h.out.size]; decide), if_pos (by omega)]
  exact h.same k hk

set_option maxRecDepth 20000 in
set_option maxHeartbeats 8000000 in
theorem operate_ok {v0 w : World} {g n c f t a : Nat} {cs rs : Array Value} {A : Option Addr} {l : List Int} {rl : Nat → List Int} {k1 k2 k3 k4 k5 fk fa : Int} {whole : Bool} (h : CmdIn v0 w g cs A n c a rs rl k1 k2 k3 k4 k5 fk fa l) (hft : f ≤ t) (htn : t ≤ n) (hk3 : k3 = 100 ∨ k3 = 99 ∨ k3 = 121) :
    Calls Try.prog 31 #[.pointer (some ⟨g, 0, none⟩), .int .i64 (f : Int), .int .i64 (t : Int), .bool whole] w (DoneIs g w (OpOk l rl k2 k3 f t) (OpPost g l a rl k2 k3 fk fa f t whole)) := by
  obtain ⟨h0, h1, hrs, h29, h30, h31, h32, h33⟩ := h.cells
  have HKp : Hid (∀ wx, Ext w wx → Calls Try.prog 44 #[.pointer (some ⟨g, 0, none⟩), .int .i64 (f : Int), .int .i64 (t : Int)] wx fun en w' => ∃ x, en = .returned (.int .i64 x) ∧ wx.grownBy w' (some g) ∧ ((∃ i m, regNo k2 = some (i, m) ∧ ¬ putBig rl i m ((l.drop f).take (t - f))) → x = 0) ∧ (x = 0 → ∃ cs' rl', MidIs w g cs w' cs' l a 0 fk fa rl' [] ∧ ∃ i m, regNo k2 = some (i, m) ∧ ¬ putBig rl i m ((l.drop f).take (t - f)) ∧ rl' = putF rl i m ((l.drop f).take (t - f)))) := Lib.hid fun wx he =>
    keep_mid (h.mid.ext he) h0 h30 hrs (h.regs.ext (h.ext.trans he)) (h.line.ext (h.ext.trans he)) h.cap hft htn h.len
  have HPt : Hid (∀ wx csx m at_ md rlx e, MidIs w g cs wx csx m at_ md fk fa rlx e → Calls Try.prog 45 #[.pointer (some ⟨g, 0, none⟩), .int .i64 (f : Int), .int .i64 (t : Int), .slice none 0 0] wx fun en w' => (∃ u, en = .returned u) ∧ ∃ cs' e', MidIs w g cs w' cs' (l.take f ++ l.drop t) at_ md fk fa rlx e' ∧ EdMakes l (l.take f ++ l.drop t) e') := Lib.hid (by
    intro wx csx m at_ md rlx e hm
    have h := put_mid hm h0 (h.line.ext (h.ext.turned hm.grown h.base)) (OwnI.ints (OwnI.nil wx 0)) (fun _ => rfl) hft htn h.len (by omega)
    rw [List.append_nil] at h
    exact h)
  have HM := Lib.hid h.mid
  have HC : Hid (cs[1]? = some (.int .i64 (a : Int)) ∧ cs[31]? = some (.int .i64 k3)) := Lib.hid ⟨h1, h31⟩
  have HL : Hid (l.length = n ∧ n ≤ 200) := Lib.hid ⟨h.line.len, h.len⟩
  have HN : Hid ((l.take f ++ l.drop t).length ≤ 200) := Lib.hid (by have := HL.out; simp; omega)
  have x31 : w.cell? ⟨g, 31, none⟩ = some (.int .i64 k3) := HM.out.cell (by omega) HC.out.2
  have hf1 : f ≤ 1000000 := by have := h.len; omega
  obtain ⟨M, hM⟩ : ∃ M, l.take f ++ l.drop t = M := ⟨_, rfl⟩
  rw [hM] at HPt HN
  have HMm := Lib.hid hM
  clear h h0 h1 hrs h29 h30 h31 h32 h33 hM
  go_enter Try.func31, Try.ntmps31
  by_cases hfe : f = t
  case pos =>
    subst hfe
    by_cases hk : k3 = 99
    case neg =>
      have hkb : (k3 != 99) = true := by simp [hk]
      go_wp2_with fail
      go_ret
      exact HM.out.fail (by decide) (fun h => hk (h.1 rfl))
    case pos =>
      subst hk
      go_wp2_with fail
      refine (HPt.out _ _ _ _ _ _ _ HM.out).mono ?_
      rintro en w1 ⟨⟨u, rfl⟩, cs1, e1, hm1, hmk⟩
      have HM1 := Lib.hid hm1
      have HMK := Lib.hid hmk
      have y31 : w1.cell? ⟨g, 31, none⟩ = some (.int .i64 99) := hm1.cell (by omega) HC.out.2
      have c65 := hm1.mode
      have f65 := hm1.blk.frozen 65
      have hm2 := hm1.setMode 0
      obtain ⟨B, d, c34, ho⟩ := hm2.text
      have c35 := hm2.oat
      have f35 := hm2.blk.frozen 35
      clear ho
      obtain ⟨L, hL⟩ : ∃ L, M.length = L := ⟨_, rfl⟩
      have hL2 : L ≤ 200 := by rw [← hL]; exact HN.out
      have HLL := Lib.hid hL
      rw [hL] at c34
      have HM2 := Lib.hid hm2
      clear hm1 hmk hm2 hL
      go_wp2_with fail
      refine (clamp_ok (f : Int) (L : Int) _ (by omega) (by omega)).mono ?_
      rintro en w2 ⟨rfl, rfl⟩
      obtain ⟨z, hz⟩ : ∃ z : Int, max 0 (min (f : Int) ((L : Int) - 1)) = z := ⟨_, rfl⟩
      rw [hz]
      have hm3 := HM2.out.setAt z
      have z31 := hm3.cell (k := 31) (by omega) HC.out.2
      have d65 := hm3.mode
      have g65 := hm3.blk.frozen 65
      have hm4 := hm3.setMode 1
      have d35 := hm4.oat
      have g35 := hm4.blk.frozen 35
      have HM5 := Lib.hid (hm4.setAt (f : Int))
      have HZ := Lib.hid hz
      clear hm3 hm4 hz HM1 HM2
      go_wp2_with fail
      go_ret
      exact HM5.out.done ⟨_, _, _, _, _, HM5.out.out, fun _ => rfl, ⟨fun _ => rfl, fun h => absurd h (by omega)⟩, .inr ⟨by decide, HMm.out.symm, HMK.out, .inl ⟨rfl, rfl, rfl⟩⟩⟩
  case neg =>
    have hlt : f < t := by omega
    have HT := Lib.hid hlt
    have hx : ((f : Int) == (t : Int)) = false := by simp; omega
    go_wp2_with fail
    refine (HKp.out _ (Ext.refl w)).mono ?_
    rintro en w0 ⟨x, rfl, hg0, hok, hx0⟩
    by_cases hxz : x = 0
    case neg =>
      have HF : Hid (DoneIs g w (OpOk l rl k2 k3 f t) (OpPost g l a rl k2 k3 fk fa f t whole) (.returned (.int .i64 x)) w0) := Lib.hid ⟨x, cs, rfl, hg0, fun h => hok (h.2 HT.out), fun h => absurd h hxz⟩
      clear hok hx0 hg0
      go_wp2_with fail
      go_ret
      exact HF.out
    subst hxz
    obtain ⟨cs0, rl0, hm0, hrl⟩ := hx0 rfl
    have HRL : Hid (KeepRel rl k2 f t ((l.drop f).take (t - f)) rl0) := Lib.hid ⟨fun h => absurd h hfe, fun _ => hrl⟩
    have HM0 := Lib.hid hm0
    have u31 : w0.cell? ⟨g, 31, none⟩ = some (.int .i64 k3) := hm0.cell (by omega) HC.out.2
    have u1 : w0.cell? ⟨g, 1, none⟩ = some (.int .i64 (a : Int)) := hm0.cell (by omega) HC.out.1
    have u35 := hm0.oat
    have v35 := hm0.blk.frozen 35
    clear hok hx0 hg0 hm0 hrl HM HKp x31
    rcases hk3 with rfl | rfl | rfl
    · go_wp2_with fail
      refine (HPt.out _ _ _ _ _ _ _ HM0.out).mono ?_
      rintro en w1 ⟨⟨u, rfl⟩, cs1, e1, hm1, hmk⟩
      clear u31 u1 u35 v35
      have HM1 := Lib.hid hm1
      have HMK := Lib.hid hmk
      have y31 : w1.cell? ⟨g, 31, none⟩ = some (.int .i64 100) := hm1.cell (by omega) HC.out.2
      have c65 := hm1.mode
      have f65 := hm1.blk.frozen 65
      have hm2 := hm1.setMode 0
      obtain ⟨B, d, c34, ho⟩ := hm2.text
      have c35 := hm2.oat
      have f35 := hm2.blk.frozen 35
      clear ho
      obtain ⟨L, hL⟩ : ∃ L, M.length = L := ⟨_, rfl⟩
      have hL2 : L ≤ 200 := by rw [← hL]; exact HN.out
      have HLL := Lib.hid hL
      rw [hL] at c34
      have HM2 := Lib.hid hm2
      clear hm1 hmk hm2 hL
      go_wp2_with fail
      refine (clamp_ok (f : Int) (L : Int) _ (by omega) (by omega)).mono ?_
      rintro en w2 ⟨rfl, rfl⟩
      obtain ⟨z, hz⟩ : ∃ z : Int, max 0 (min (f : Int) ((L : Int) - 1)) = z := ⟨_, rfl⟩
      rw [hz]
      have hm3 := HM2.out.setAt z
      have z31 := hm3.cell (k := 31) (by omega) HC.out.2
      have HM5 := Lib.hid hm3
      have HZ := Lib.hid hz
      clear hm3 hz HM1 HM2
      go_wp2_with fail
      go_ret
      exact HM5.out.done ⟨_, _, _, _, _, HM5.out.out, fun h => absurd h (by omega), HRL.out, .inr ⟨by decide, HMm.out.symm, HMK.out, .inr ⟨by decide, rfl, by rw [HLL.out]; exact HZ.out.symm⟩⟩⟩
    · go_wp2_with fail
      refine (HPt.out _ _ _ _ _ _ _ HM0.out).mono ?_
      rintro en w1 ⟨⟨u, rfl⟩, cs1, e1, hm1, hmk⟩
      clear u31 u1 u35 v35
      have HM1 := Lib.hid hm1
      have HMK := Lib.hid hmk
      have y31 : w1.cell? ⟨g, 31, none⟩ = some (.int .i64 99) := hm1.cell (by omega) HC.out.2
      have c65 := hm1.mode
      have f65 := hm1.blk.frozen 65
      have hm2 := hm1.setMode 0
      obtain ⟨B, d, c34, ho⟩ := hm2.text
      have c35 := hm2.oat
      have f35 := hm2.blk.frozen 35
      clear ho
      obtain ⟨L, hL⟩ : ∃ L, M.length = L := ⟨_, rfl⟩
      have hL2 : L ≤ 200 := by rw [← hL]; exact HN.out
      have HLL := Lib.hid hL
      rw [hL] at c34
      have HM2 := Lib.hid hm2
      clear hm1 hmk hm2 hL
      go_wp2_with fail
      refine (clamp_ok (f : Int) (L : Int) _ (by omega) (by omega)).mono ?_
      rintro en w2 ⟨rfl, rfl⟩
      obtain ⟨z, hz⟩ : ∃ z : Int, max 0 (min (f : Int) ((L : Int) - 1)) = z := ⟨_, rfl⟩
      rw [hz]
      have hm3 := HM2.out.setAt z
      have z31 := hm3.cell (k := 31) (by omega) HC.out.2
      have d65 := hm3.mode
      have g65 := hm3.blk.frozen 65
      have hm4 := hm3.setMode 1
      have d35 := hm4.oat
      have g35 := hm4.blk.frozen 35
      have HM5 := Lib.hid (hm4.setAt (f : Int))
      have HZ := Lib.hid hz
      clear hm3 hm4 hz HM1 HM2
      go_wp2_with fail
      go_ret
      exact HM5.out.done ⟨_, _, _, _, _, HM5.out.out, fun _ => rfl, HRL.out, .inr ⟨by decide, HMm.out.symm, HMK.out, .inl ⟨rfl, rfl, rfl⟩⟩⟩
    · cases whole
      · have HM5 := Lib.hid (HM0.out.setAt (min (f : Int) (a : Int)))
        go_wp2_with fail
        all_goals
          go_ret
          exact HM5.out.done ⟨_, _, _, _, _, HM5.out.out, fun h => absurd h hfe, HRL.out, .inl ⟨rfl, rfl, rfl, rfl, rfl⟩⟩
      · go_wp2_with fail
        go_ret
        exact HM0.out.done ⟨_, _, _, _, _, HM0.out.out, fun h => absurd h hfe, HRL.out, .inl ⟨rfl, rfl, rfl, rfl, rfl⟩⟩
end Go.Proofs.Ytmhgndjmcignjaa
