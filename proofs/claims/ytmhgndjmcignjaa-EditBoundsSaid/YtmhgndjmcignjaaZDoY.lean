/-
  edit.Do that pastes, from a result; the words that a result's parts are read by.
-/
import Derived.Test.YtmhgndjmcignjaaZDoX
import Derived.Test.YtmhgndjmcignjaaZDoL

namespace Go.Proofs.Ytmhgndjmcignjaa
open Go.RowKit
set_option linter.unusedVariables false
set_option linter.unusedSimpArgs false

theorem ResIs.regs' {w : World} {b : Nat} {vs : Array Value} {m : List Int} {at_ md fk fa : Int} {rl : Nat → List Int} {e : List Spl} (h : ResIs w b vs m at_ md fk fa rl e) : RegsO w b (vs.extract 2 29) rl :=
  ⟨by simp [h.size], fun i hi => by
    obtain ⟨v, h1, h2⟩ := h.regs i hi
    exact ⟨v, by rw [Array.getElem?_extract, if_pos (by have := h.size; omega)]; exact h1, h2⟩⟩
theorem part_cells {vs : Array Value} (h : vs.size = 33) : ∀ j v, (vs.extract 2 29)[j]? = some v → vs[2 + j]? = some v := fun j v hj => by
  rw [Array.getElem?_extract] at hj
  split at hj
  · exact hj
  · cases hj
theorem part_size {vs : Array Value} (h : vs.size = 33) : (Try.prog.info? 30).map (·.size) = some (vs.extract 2 29).size := regs_size (by simp [h])

theorem place_toNat {n : Nat} {a : Int} (h1 : 0 ≤ a) (h2 : a ≤ max 0 ((n : Int) - 1)) : a.toNat ≤ n - 1 := by omega
/-- P and p where the register without a name holds something that fits. -/
theorem do_put {w : World} {A : Option Addr} {n c : Nat} {a fk fa v : Int} {l x : List Int} {rs : Array Value} {rl : Nat → List Int} (hl : Ints w A n c l) (wl : ∀ x ∈ l, (Lit.int .i64 x).wf = true) (hA : A = none → c = 0) (hr : Regs w rs rl)
    (hn : n ≤ 200) (ha : 0 ≤ a) (ha2 : a ≤ max 0 ((n : Int) - 1)) (hf : fk = 0 ∨ fk = 102 ∨ fk = 70 ∨ fk = 116 ∨ fk = 84) (hv : v = 80 ∨ v = 112) (hx : rl 0 = x) (hx1 : 1 ≤ x.length) (hx2 : x.length + n ≤ 200) :
    Calls Try.prog 8 #[.agg #[.slice A n c, .int .i64 a], .agg rs, .agg #[.int .i64 fk, .int .i64 fa], .agg #[.int .i64 0, .int .i64 0, .int .i64 0, .int .i64 v, .int .i64 0]] w fun e w' => Ext w w' ∧
      ∃ vs m at_ md zk za rl' ed, e = .returned (.tuple #[.agg vs, .int .i64 0]) ∧ ResIs w' (w.heap.size + 5) vs m at_ md zk za rl' ed ∧ m = l.take (if v = 112 then min (a.toNat + 1) n else a.toNat) ++ x ++ l.drop (if v = 112 then min (a.toNat + 1) n else a.toNat) := by
  have hreg : regNo 0 = some (0, false) := rfl
  have hg : getL rl 0 = x := by unfold getL; rw [hreg]; exact hx
  have he : getE' rl 0 = 0 := by unfold getE'; rw [hreg]; show (if (rl 0).length = 0 then (6 : Int) else 0) = 0; rw [if_neg (by rw [hx]; omega)]
  have hcn : cntN 0 = 1 := rfl
  have hok : PasteOk n rl 0 0 := ⟨he, by rw [hg, hcn]; omega⟩
  have heff : effF 0 v = (0, v) := by rcases hv with rfl | rfl <;> rfl
  have hmv : isMv v = false := by rcases hv with rfl | rfl <;> decide
  refine (do_full (a := a) (fk := fk) (fa := fa) (k1 := 0) (k2 := 0) (k3 := 0) (k4 := v) (k5 := 0) hl wl hA hr).mono ?_
  rintro e w' ⟨hxw, ⟨hno, _⟩ | ⟨vs, m, at_, md, zk, za, rl', ed, rfl, hvd, hres, hrel⟩⟩
  · refine absurd ?_ hno
    rw [heff]
    refine ⟨⟨⟨hn, ha, ha2⟩, ⟨by omega, by omega⟩, hf, .inl rfl⟩, fun h => ?_, fun _ _ => ?_, fun _ h => absurd rfl h⟩
    · rw [hmv] at h; cases h
    · refine ⟨fun _ => hok, fun h => ?_, fun h => ?_, by rcases hv with h | h <;> simp [h]⟩
      · rcases hv with h1 | h1 <;> rw [h1] at h <;> cases h
      · rcases hv with h1 | h1 <;> rw [h1] at h <;> cases h
  · rw [heff] at hrel
    refine ⟨hxw, vs, m, at_, md, zk, za, rl', ed, rfl, hres, ?_⟩
    rcases hrel with ⟨h, _⟩ | ⟨_, _, _, _, _, h⟩ | ⟨_, h, _⟩
    · rw [hmv] at h; cases h
    · rcases h with ⟨rfl, h, _⟩ | ⟨rfl, h, _⟩ | ⟨h1, _⟩ | ⟨h1, _⟩ | ⟨_, _, h1⟩
      · obtain ⟨_, h2, _⟩ := h
        rw [h2, hg, hcn, repL_one]
        rfl
      · obtain ⟨_, h2, _⟩ := h
        rw [h2, hg, hcn, repL_one]
        rfl
      · rcases hv with h2 | h2 <;> rw [h2] at h1 <;> cases h1
      · rcases hv with h2 | h2 <;> rw [h2] at h1 <;> cases h1
      · rcases hv with rfl | rfl <;> simp at h1
    · exact absurd rfl h

/-- Where what was taken is put back. -/
theorem paste_back {l : List Int} {n f t : Nat} {b : Bool} {m : List Int} {at_ : Int} (hl : l.length = n) (hft : f ≤ t) (htn : t ≤ n) (hm : m = l.take f ++ l.drop t) (hat : at_ = max 0 (min (f : Int) ((m.length : Int) - 1)))
    (hb : b = true ↔ 0 < m.length ∧ at_ = (m.length : Int) - 1 ∧ m = l.take m.length ∧ (l.drop f).take (t - f) = l.drop m.length) :
    m.take (if (if b = true then (112 : Int) else 80) = 112 then min (at_.toNat + 1) m.length else at_.toNat) ++ (l.drop f).take (t - f) ++ m.drop (if (if b = true then (112 : Int) else 80) = 112 then min (at_.toNat + 1) m.length else at_.toNat) = l := by
  have hml : m.length = f + (n - t) := by rw [hm]; simp; omega
  cases b with
  | true =>
    obtain ⟨h1, h2, h3, h4⟩ := hb.1 rfl
    simp only [if_true]
    have e : min (at_.toNat + 1) m.length = m.length := by omega
    rw [e, List.take_of_length_le (Nat.le_refl _), List.drop_of_length_le (Nat.le_refl _), List.append_nil, h4]
    conv => lhs; lhs; rw [h3]
    exact List.take_append_drop _ _
  | false =>
    have e1 : (if (if false = true then (112 : Int) else 80) = 112 then min (at_.toNat + 1) m.length else at_.toNat) = at_.toNat := by simp
    rw [e1]
    have e2 : at_.toNat = f := by
      by_cases hf : f < m.length
      · omega
      · by_cases h0 : m.length = 0
        · omega
        · have htn' : t = n := by omega
          have hfm : f = m.length := by omega
          have : false = true := hb.2 ⟨by omega, by omega, by
            rw [← hfm, hm, htn', List.drop_of_length_le (by omega), List.append_nil], by
            rw [← hfm, htn']
            exact List.take_of_length_le (by simp; omega)⟩
          cases this
    rw [e2, hm]
    exact took_back hft (by omega)
end Go.Proofs.Ytmhgndjmcignjaa
