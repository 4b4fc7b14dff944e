/-
  edit.Do whatever the command: what it comes to.
-/
import Derived.Test.YtmhgndjmcignjaaZDoQ
import Derived.Test.YtmhgndjmcignjaaZDoU

namespace Go.Proofs.Ytmhgndjmcignjaa
open Go.RowKit
set_option linter.unusedVariables false
set_option linter.unusedSimpArgs false

/-- What comes of the command that is done at last. -/
def DoRelV (l : List Int) (n a : Nat) (rl : Nat → List Int) (k1 k2 o v k5 fk fa : Int) (m : List Int) (at_ md zk za : Int) (rl' : Nat → List Int) (ed : List Spl) : Prop :=
  (isMv v = true ∧ ∃ mk ma, foundF' fk fa v k5 = some (mk, ma, zk, za) ∧ ((o = 0 ∧ GoIs l n a mk k1 ma at_ ∧ m = l ∧ md = 0 ∧ rl' = rl ∧ ed = []) ∨ (o ≠ 0 ∧ ∃ f t, RangeIs l n a mk k1 ma f t ∧ OpRel l a rl k2 o f t false m at_ md rl' ed))) ∨
  (isMv v = false ∧ o = 0 ∧ zk = fk ∧ za = fa ∧ rl' = rl ∧ PlainRel l n a rl k1 k2 v k5 m at_ md ed) ∨
  (isMv v = false ∧ o ≠ 0 ∧ zk = fk ∧ za = fa ∧ ∃ f t whole, f ≤ t ∧ t ≤ n ∧ SpanIs l n a o v k5 f t whole ∧ OpRel l a rl k2 o f t whole m at_ md rl' ed)
theorem OnePost.rel {g n a : Nat} {l : List Int} {rl : Nat → List Int} {k1 k2 o v v' k5 fk fa : Int} {w : World} {cs : Array Value} (h : OnePost g l n a rl k1 k2 o v k5 fk fa (PlainPost g l n a rl k1 k2 v' k5 fk fa) w cs) (hv : o = 0 → v' = v) :
    ∃ m at_ md zk za rl' e, OutIs w (g + 1) cs m at_ md zk za rl' e ∧ DoRelV l n a rl k1 k2 o v k5 fk fa m at_ md zk za rl' e := by
  rcases h with ⟨hm, mk, ma, zk, za, hf, ⟨ho, x, h1, h2⟩ | ⟨ho, f, t, m, at_, md, rl', e, hr, h1, h2⟩⟩ | ⟨hm, ho, m, at_, md, e, h1, h2⟩ | ⟨hm, ho, f, t, whole, m, at_, md, rl', e, h1, h2, h3, h4, h5⟩
  · exact ⟨_, _, _, _, _, _, _, h2, .inl ⟨hm, mk, ma, hf, .inl ⟨ho, h1, rfl, rfl, rfl, rfl⟩⟩⟩
  · exact ⟨_, _, _, _, _, _, _, h1, .inl ⟨hm, mk, ma, hf, .inr ⟨ho, f, t, hr, h2⟩⟩⟩
  · rw [hv ho] at h2
    exact ⟨_, _, _, _, _, _, _, h1, .inr (.inl ⟨hm, ho, rfl, rfl, rfl, h2⟩)⟩
  · exact ⟨_, _, _, _, _, _, _, h4, .inr (.inr ⟨hm, ho, rfl, rfl, f, t, whole, h1, h2, h3, h5⟩)⟩
theorem effF_zero {o v : Int} (h : (effF o v).1 = 0) : (effF o v).2 = v ∧ o = 0 := by
  unfold effF at h ⊢
  split
  · rename_i ho
    rw [if_pos ho] at h
    split
    · rename_i p hp
      rw [hp] at h
      have := shortF_op hp
      have h : p.1 = 0 := h
      omega
    · exact ⟨rfl, ho⟩
  · rename_i ho
    rw [if_neg ho] at h
    exact absurd h ho
def DoneRel (b : Nat) (l : List Int) (n a : Nat) (rl : Nat → List Int) (k1 k2 o v k5 fk fa : Int) (w : World) (cs : Array Value) : Prop :=
  ∃ g m at_ md zk za rl' e, b ≤ g ∧ OutIs w (g + 1) cs m at_ md zk za rl' e ∧ DoRelV l n a rl k1 k2 o v k5 fk fa m at_ md zk za rl' e
/-- edit.Do. -/
theorem do_full {w : World} {A : Option Addr} {n c : Nat} {a fk fa k1 k2 k3 k4 k5 : Int} {l : List Int} {rs : Array Value} {rl : Nat → List Int} (hl : Ints w A n c l) (wl : ∀ x ∈ l, (Lit.int .i64 x).wf = true) (hA : A = none → c = 0) (hr : Regs w rs rl) :
    Calls Try.prog 8 #[.agg #[.slice A n c, .int .i64 a], .agg rs, .agg #[.int .i64 fk, .int .i64 fa], .agg #[.int .i64 k1, .int .i64 k2, .int .i64 k3, .int .i64 k4, .int .i64 k5]] w fun e w' => Ext w w' ∧
      ((¬ (ValidC n a k1 fk k3 ∧ OneOk l n a.toNat rl k1 k2 (effF k3 k4).1 (effF k3 k4).2 k5 fk fa (PlainOk n a.toNat rl k1 k2 k4)) ∧ ∃ er, er ≠ 0 ∧ e = .returned (.tuple #[.agg resZ, .int .i64 er])) ∨
       ∃ vs m at_ md zk za rl' ed, e = .returned (.tuple #[.agg vs, .int .i64 0]) ∧ ValidC n a k1 fk k3 ∧ ResIs w' (w.heap.size + 5) vs m at_ md zk za rl' ed ∧ DoRelV l n a.toNat rl k1 k2 (effF k3 k4).1 (effF k3 k4).2 k5 fk fa m at_ md zk za rl' ed) := by
  refine (do_any (Ok := OneOk l n a.toNat rl k1 k2 (effF k3 k4).1 (effF k3 k4).2 k5 fk fa (PlainOk n a.toNat rl k1 k2 k4)) (Post := fun w' cs => ValidC n a k1 fk k3 ∧ DoneRel (w.heap.size + 5) l n a.toNat rl k1 k2 (effF k3 k4).1 (effF k3 k4).2 k5 fk fa w' cs) hl wl hA hr ?_ ?_).mono ?_
  · rintro w1 w2 cs ⟨hv, g, m, at_, md, zk, za, rl', e, h1, h2, h3⟩ hg
    exact ⟨hv, g, m, at_, md, zk, za, rl', e, h1, h2.grown hg (by omega), h3⟩
  · intro hv wz g cs hg hC
    have h := one_walk (POk := PlainOk n a.toNat rl k1 k2 k4) (PPost := PlainPost g l n a.toNat rl k1 k2 k4 k5 fk fa) hC hv.2.2.2 (fun _ _ wx he => plain_any (hC.wext he))
    exact h.mono fun e w' h => h.from ⟨rfl, rfl, rfl, Nat.le_refl _, fun _ _ _ => rfl⟩ id (fun cs h =>
      let ⟨m, at_, md, zk, za, rl', e, h1, h2⟩ := h.rel (fun h0 => (effF_zero h0).1.symm)
      ⟨hv, g, m, at_, md, zk, za, rl', e, hg, h1, h2⟩)
  · rintro e w' ⟨hx, h⟩
    refine ⟨hx, h.imp id ?_⟩
    rintro ⟨cs, hz, h1, h2, hv, g, m, at_, md, zk, za, rl', e', h3, h4, h5⟩
    exact ⟨_, m, at_, md, zk, za, rl', e', h2, hv, h4.res h1 (by omega), h5⟩
end Go.Proofs.Ytmhgndjmcignjaa

namespace Go.Proofs.Ytmhgndjmcignjaa
open Go.RowKit
set_option linter.unusedVariables false
set_option linter.unusedSimpArgs false

theorem take_start (w : World) (A : Option Addr) (n c : Nat) (a fk fa k1 k2 k3 k4 k5 : Int) : ∃ w0, w0 = (((w.alloc (.cells #[.slice A n c, .int .i64 a] 24)).alloc (.cells #[.int .i64 fk, .int .i64 fa] 26)).alloc (.cells #[.int .i64 k1, .int .i64 k2, .int .i64 k3, .int .i64 k4, .int .i64 k5] 28)) ∧ Ext w w0 ∧
    Blk w0 w.heap.size 24 #[.slice A n c, .int .i64 a] ∧ Blk w0 (w.heap.size + 1) 26 #[.int .i64 fk, .int .i64 fa] ∧ Blk w0 (w.heap.size + 1 + 1) 28 #[.int .i64 k1, .int .i64 k2, .int .i64 k3, .int .i64 k4, .int .i64 k5] := by
  have h1 := Blk.new w 24 #[.slice A n c, .int .i64 a]
  have x1 := Ext.alloc w (.cells #[.slice A n c, .int .i64 a] 24)
  have z1 : (w.alloc (.cells #[.slice A n c, .int .i64 a] 24)).heap.size = w.heap.size + 1 := by simp
  generalize w.alloc (.cells #[.slice A n c, .int .i64 a] 24) = W1 at *
  have h2 := Blk.new W1 26 #[.int .i64 fk, .int .i64 fa]
  have x2 := Ext.alloc W1 (.cells #[.int .i64 fk, .int .i64 fa] 26)
  have z2 : (W1.alloc (.cells #[.int .i64 fk, .int .i64 fa] 26)).heap.size = w.heap.size + 1 + 1 := by simp [z1]
  rw [z1] at h2
  generalize W1.alloc (.cells #[.int .i64 fk, .int .i64 fa] 26) = W2 at *
  have h3 := Blk.new W2 28 #[.int .i64 k1, .int .i64 k2, .int .i64 k3, .int .i64 k4, .int .i64 k5]
  have x3 := Ext.alloc W2 (.cells #[.int .i64 k1, .int .i64 k2, .int .i64 k3, .int .i64 k4, .int .i64 k5] 28)
  rw [z2] at h3
  exact ⟨_, rfl, (x1.trans x2).trans x3, Blk.ext h1 (x2.trans x3), Blk.ext h2 x3, h3⟩

theorem EdOwn.nothing {w : World} {b : Nat} {v : Value} (h : EdOwn w b v []) : ∃ O c, v = .slice O 0 c := by
  obtain ⟨O, k, c, h1, h2⟩ := h.at_
  have := h2.len
  simp at this
  exact ⟨O, c, by rw [h1, ← this]⟩
/-- What an operator takes lies in the register without a name. -/
theorem keep_zero {l : List Int} {f t : Nat} {rl' : Nat → List Int} (h : KeepRel (fun _ => []) 0 f t ((l.drop f).take (t - f)) rl') (hft : f ≤ t) : rl' 0 = (l.drop f).take (t - f) := by
  by_cases he : f = t
  · rw [h.1 he]
    subst he
    simp
  · obtain ⟨i, m, h1, _, h2⟩ := h.2 (by omega)
    unfold regNo at h1
    rw [if_pos rfl] at h1
    injection h1 with h1
    injection h1 with h1 h3
    subst h1; subst h3; subst h2
    simp [putF, upd]
theorem took_len {l : List Int} {f t n : Nat} (hl : l.length = n) (hft : f ≤ t) (htn : t ≤ n) : ((l.drop f).take (t - f)).length = t - f := by
  simp; omega
theorem took_back {l : List Int} {f t : Nat} (hft : f ≤ t) (hf : f ≤ l.length) : (l.take f ++ l.drop t).take f ++ ((l.drop f).take (t - f)) ++ (l.take f ++ l.drop t).drop f = l := by
  have h1 : (l.take f).length = f := by simp; omega
  rw [List.take_append_of_le_length (by omega), List.take_of_length_le (by omega), List.drop_append_of_le_length (by omega), List.drop_of_length_le (l := l.take f) (by omega), List.nil_append]
  have h2 : l.drop t = (l.drop f).drop (t - f) := by rw [List.drop_drop, show f + (t - f) = t by omega]
  rw [h2, List.append_assoc, List.take_append_drop, List.take_append_drop]
end Go.Proofs.Ytmhgndjmcignjaa

namespace Go.Proofs.Ytmhgndjmcignjaa
open Go.RowKit
set_option linter.unusedVariables false
set_option linter.unusedSimpArgs false

theorem ResIs.regs' {w : World} {b : Nat} {vs : Array Value} {m : List Int} {at_ md fk fa : Int} {rl : Nat → List Int} {e : List Spl} (h : ResIs w b vs m at_ md fk fa rl e) : RegsO w b (vs.extract 2 29) rl :=
  ⟨by simp [h.size], fun i hi => by
    obtain ⟨v, h1, h2⟩ := h.regs i hi
    exact ⟨v, by rw [Array.getElem?_extract, if_pos (by have := h.size; omega)]; exact h1, h2⟩⟩
theorem part_cells {vs : Array Value} (h : vs.size = 33) : ∀ j v, (vs.extract 2 29)[j]? = some v → vs[2 + j]? = some v := fun j v hj => by
  rw [Array.getElem?_extract] at hj
  split at hj
  · exact hj
  · cases hj
theorem part_size {vs : Array Value} (h : vs.size = 33) : (Try.prog.info? 30).map (·.size) = some (vs.extract 2 29).size := regs_size (by simp [h])

theorem place_toNat {n : Nat} {a : Int} (h1 : 0 ≤ a) (h2 : a ≤ max 0 ((n : Int) - 1)) : a.toNat ≤ n - 1 := by omega
/-- P and p where the register without a name holds something that fits. -/
theorem do_put {w : World} {A : Option Addr} {n c : Nat} {a fk fa v : Int} {l x : List Int} {rs : Array Value} {rl : Nat → List Int} (hl : Ints w A n c l) (wl : ∀ x ∈ l, (Lit.int .i64 x).wf = true) (hA : A = none → c = 0) (hr : Regs w rs rl)
    (hn : n ≤ 200) (ha : 0 ≤ a) (ha2 : a ≤ max 0 ((n : Int) - 1)) (hf : fk = 0 ∨ fk = 102 ∨ fk = 70 ∨ fk = 116 ∨ fk = 84) (hv : v = 80 ∨ v = 112) (hx : rl 0 = x) (hx1 : 1 ≤ x.length) (hx2 : x.length + n ≤ 200) :
    Calls Try.prog 8 #[.agg #[.slice A n c, .int .i64 a], .agg rs, .agg #[.int .i64 fk, .int .i64 fa], .agg #[.int .i64 0, .int .i64 0, .int .i64 0, .int .i64 v, .int .i64 0]] w fun e w' => Ext w w' ∧
      ∃ vs m at_ md zk za rl' ed, e = .returned (.tuple #[.agg vs, .int .i64 0]) ∧ ResIs w' (w.heap.size + 5) vs m at_ md zk za rl' ed ∧ m = l.take (if v = 112 then min (a.toNat + 1) n else a.toNat) ++ x ++ l.drop (if v = 112 then min (a.toNat + 1) n else a.toNat) := by
  have hreg : regNo 0 = some (0, false) := rfl
  have hg : getL rl 0 = x := by unfold getL; rw [hreg]; exact hx
  have he : getE' rl 0 = 0 := by unfold getE'; rw [hreg]; show (if (rl 0).length = 0 then (6 : Int) else 0) = 0; rw [if_neg (by rw [hx]; omega)]
  have hcn : cntN 0 = 1 := rfl
  have hok : PasteOk n rl 0 0 := ⟨he, by rw [hg, hcn]; omega⟩
  have heff : effF 0 v = (0, v) := by rcases hv with rfl | rfl <;> rfl
  have hmv : isMv v = false := by rcases hv with rfl | rfl <;> decide
  refine (do_full (a := a) (fk := fk) (fa := fa) (k1 := 0) (k2 := 0) (k3 := 0) (k4 := v) (k5 := 0) hl wl hA hr).mono ?_
  rintro e w' ⟨hxw, ⟨hno, _⟩ | ⟨vs, m, at_, md, zk, za, rl', ed, rfl, hvd, hres, hrel⟩⟩
  · refine absurd ?_ hno
    rw [heff]
    refine ⟨⟨⟨hn, ha, ha2⟩, ⟨by omega, by omega⟩, hf, .inl rfl⟩, fun h => ?_, fun _ _ => ?_, fun _ h => absurd rfl h⟩
    · rw [hmv] at h; cases h
    · refine ⟨fun _ => hok, fun h => ?_, fun h => ?_, by rcases hv with h | h <;> simp [h]⟩
      · rcases hv with h1 | h1 <;> rw [h1] at h <;> cases h
      · rcases hv with h1 | h1 <;> rw [h1] at h <;> cases h
  · rw [heff] at hrel
    refine ⟨hxw, vs, m, at_, md, zk, za, rl', ed, rfl, hres, ?_⟩
    rcases hrel with ⟨h, _⟩ | ⟨_, _, _, _, _, h⟩ | ⟨_, h, _⟩
    · rw [hmv] at h; cases h
    · rcases h with ⟨rfl, h, _⟩ | ⟨rfl, h, _⟩ | ⟨h1, _⟩ | ⟨h1, _⟩ | ⟨_, _, h1⟩
      · obtain ⟨_, h2, _⟩ := h
        rw [h2, hg, hcn, repL_one]
        rfl
      · obtain ⟨_, h2, _⟩ := h
        rw [h2, hg, hcn, repL_one]
        rfl
      · rcases hv with h2 | h2 <;> rw [h2] at h1 <;> cases h1
      · rcases hv with h2 | h2 <;> rw [h2] at h1 <;> cases h1
      · rcases hv with rfl | rfl <;> simp at h1
    · exact absurd rfl h

/-- Where what was taken is put back. -/
theorem paste_back {l : List Int} {n f t : Nat} {b : Bool} {m : List Int} {at_ : Int} (hl : l.length = n) (hft : f ≤ t) (htn : t ≤ n) (hm : m = l.take f ++ l.drop t) (hat : at_ = max 0 (min (f : Int) ((m.length : Int) - 1)))
    (hb : b = true ↔ 0 < m.length ∧ at_ = (m.length : Int) - 1 ∧ m = l.take m.length ∧ (l.drop f).take (t - f) = l.drop m.length) :
    m.take (if (if b = true then (112 : Int) else 80) = 112 then min (at_.toNat + 1) m.length else at_.toNat) ++ (l.drop f).take (t - f) ++ m.drop (if (if b = true then (112 : Int) else 80) = 112 then min (at_.toNat + 1) m.length else at_.toNat) = l := by
  have hml : m.length = f + (n - t) := by rw [hm]; simp; omega
  cases b with
  | true =>
    obtain ⟨h1, h2, h3, h4⟩ := hb.1 rfl
    simp only [if_true]
    have e : min (at_.toNat + 1) m.length = m.length := by omega
    rw [e, List.take_of_length_le (Nat.le_refl _), List.drop_of_length_le (Nat.le_refl _), List.append_nil, h4]
    conv => lhs; lhs; rw [h3]
    exact List.take_append_drop _ _
  | false =>
    have e1 : (if (if false = true then (112 : Int) else 80) = 112 then min (at_.toNat + 1) m.length else at_.toNat) = at_.toNat := by simp
    rw [e1]
    have e2 : at_.toNat = f := by
      by_cases hf : f < m.length
      · omega
      · by_cases h0 : m.length = 0
        · omega
        · have htn' : t = n := by omega
          have hfm : f = m.length := by omega
          have : false = true := hb.2 ⟨by omega, by omega, by
            rw [← hfm, hm, htn', List.drop_of_length_le (by omega), List.append_nil], by
            rw [← hfm, htn']
            exact List.take_of_length_le (by simp; omega)⟩
          cases this
    rw [e2, hm]
    exact took_back hft (by omega)
end Go.Proofs.Ytmhgndjmcignjaa

namespace Go.Proofs.Ytmhgndjmcignjaa
open Go.RowKit
set_option linter.unusedVariables false
set_option linter.unusedSimpArgs false

/-! The literal: the character is taken. -/
theorem abX_eff : effF 0 120 = (100, 108) := by decide
theorem abX_found : foundF' 0 0 108 0 = some (108, 0, 0, 0) := by decide
theorem abX_go {o : Option (Nat × Bool)} (h : goR (chars ⟨#[97, 98]⟩) 0 108 0 (max 1 (0 : Int)).toNat true o) : o = some (1, false) := by
  have h1 : isFind 108 = false := by decide +kernel
  unfold goR at h
  rw [h1] at h
  unfold plainR plainF at h
  have h2 : (chars ⟨#[97, 98]⟩).length = 2 := by decide +kernel
  simp [h2] at h
  rw [h]
  rfl
theorem abX_span {f t : Nat} (h : RangeIs (chars ⟨#[97, 98]⟩) 2 0 108 0 0 f t) : f = 0 ∧ t = 1 := by
  obtain ⟨_, x, i, h1, _, _, rfl, rfl⟩ := h
  have := abX_go h1
  injection this with this
  injection this with h2 h3
  subst h2; subst h3
  simp
theorem abX_ok {Q : Prop} : ValidC 2 0 0 0 0 ∧ OneOk (chars ⟨#[97, 98]⟩) 2 (0 : Int).toNat (fun _ => []) 0 0 (effF 0 120).1 (effF 0 120).2 0 0 0 Q := by
  rw [abX_eff]
  refine ⟨⟨⟨by omega, by omega, by omega⟩, ⟨by omega, by omega⟩, .inl rfl, .inl rfl⟩, fun _ => ⟨108, 0, 0, 0, abX_found, ?_, fun h => ?_, fun _ f t h => ?_⟩, fun h => ?_, fun h => ?_⟩
  · exact ⟨by omega, by omega, by omega, by omega, by omega, by decide +kernel⟩
  · have := abX_go (o := none) (by simpa using h)
    cases this
  · obtain ⟨rfl, rfl⟩ := abX_span h
    refine ⟨fun h => by omega, fun _ => ⟨0, false, rfl, ?_⟩⟩
    unfold putBig
    simp
    rw [show (chars ⟨#[97, 98]⟩).length = 2 by decide +kernel]
    omega
  · exact absurd h (by decide)
  · exact absurd h (by decide)
theorem abX_res {m : List Int} {at_ md zk za : Int} {rl' : Nat → List Int} {ed : List Spl} (h : DoRelV (chars ⟨#[97, 98]⟩) 2 (0 : Int).toNat (fun _ => []) 0 0 (effF 0 120).1 (effF 0 120).2 0 0 0 m at_ md zk za rl' ed) : m = chars ⟨#[98]⟩ ∧ rl' 0 = chars ⟨#[97]⟩ := by
  rw [abX_eff] at h
  rcases h with ⟨_, mk, ma, hf, ⟨h, _⟩ | ⟨_, f, t, h1, h2⟩⟩ | ⟨h, _⟩ | ⟨h, _⟩
  · exact absurd h (by decide)
  · rw [abX_found] at hf
    injection hf with hf
    simp at hf
    obtain ⟨rfl, rfl, _, _⟩ := hf
    obtain ⟨rfl, rfl⟩ := abX_span h1
    obtain ⟨_, hk, ⟨h, _⟩ | ⟨_, hm, _, _⟩⟩ := h2
    · exact absurd h (by decide)
    · refine ⟨by rw [hm]; decide +kernel, ?_⟩
      rw [keep_zero hk (by omega)]
      decide +kernel
  · exact absurd h (by decide)
  · exact absurd h (by decide)

end Go.Proofs.Ytmhgndjmcignjaa
