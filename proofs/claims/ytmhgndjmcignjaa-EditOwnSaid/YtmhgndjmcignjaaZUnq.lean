/-
  A command comes to one thing: plain law.
-/
import Derived.Test.YtmhgndjmcignjaaZJ10
import Derived.Test.YtmhgndjmcignjaaZJ11

namespace Go.Proofs.Ytmhgndjmcignjaa
open Go.RowKit
set_option linter.unusedVariables false
set_option linter.unusedSimpArgs false

theorem RangeIs.one {l : List Int} {n a : Nat} {key cnt arg : Int} {f t f' t' : Nat} (h : RangeIs l n a key cnt arg f t) (h' : RangeIs l n a key cnt arg f' t') : f = f' ∧ t = t' := by
  obtain ⟨_, x, i, h1, _, _, rfl, rfl⟩ := h
  obtain ⟨_, x', i', h1', _, _, rfl, rfl⟩ := h'
  have := goR_one h1 h1'
  injection this with this
  injection this with h2 h3
  subst h2; subst h3
  exact ⟨rfl, rfl⟩
theorem GoIs.one {l : List Int} {n a : Nat} {key cnt arg : Int} {x x' : Int} (h : GoIs l n a key cnt arg x) (h' : GoIs l n a key cnt arg x') : x = x' := by
  obtain ⟨_, y, i, h1, _, rfl⟩ := h
  obtain ⟨_, y', i', h1', _, rfl⟩ := h'
  have := goR_one h1 h1'
  injection this with this
  injection this with h2 h3
  subst h2
  rfl
theorem EdMakes.one {l m : List Int} {e e' : List Spl} (h : EdMakes l m e) (h' : EdMakes l m e') : e = e' := by
  obtain ⟨k, j, h1, h2⟩ := h
  obtain ⟨k', j', h1', h2'⟩ := h'
  obtain ⟨rfl, rfl⟩ := btw_uniq h1 h1'
  rcases h2 with ⟨a1, a2, rfl⟩ | ⟨a1, rfl⟩ <;> rcases h2' with ⟨b1, b2, rfl⟩ | ⟨b1, rfl⟩
  · rfl
  · exact absurd ⟨a1, a2⟩ b1
  · exact absurd ⟨b1, b2⟩ a1
  · rfl
theorem KeepRel.one {rl : Nat → List Int} {k2 : Int} {f t : Nat} {x : List Int} {r r' : Nat → List Int} (hft : f ≤ t) (h : KeepRel rl k2 f t x r) (h' : KeepRel rl k2 f t x r') : r = r' := by
  by_cases he : f = t
  · rw [h.1 he, h'.1 he]
  · obtain ⟨i, m, h1, _, rfl⟩ := h.2 (by omega)
    obtain ⟨i', m', h1', _, rfl⟩ := h'.2 (by omega)
    rw [h1] at h1'
    injection h1' with h1'
    injection h1' with e1 e2
    subst e1; subst e2
    rfl
theorem OpRel.one {l : List Int} {a : Int} {rl : Nat → List Int} {k2 k3 : Int} {f t : Nat} {whole : Bool} {m m' : List Int} {at_ at' md md' : Int} {r r' : Nat → List Int} {e e' : List Spl} (hft : f ≤ t) (h : OpRel l a rl k2 k3 f t whole m at_ md r e) (h' : OpRel l a rl k2 k3 f t whole m' at' md' r' e') : m = m' ∧ at_ = at' ∧ md = md' ∧ r = r' ∧ e = e' := by
  obtain ⟨_, hk, h⟩ := h
  obtain ⟨_, hk', h'⟩ := h'
  have hr := hk.one hft hk'
  rcases h with ⟨a1, rfl, rfl, rfl, rfl⟩ | ⟨a1, hm, he, ha⟩ <;> rcases h' with ⟨b1, rfl, rfl, rfl, rfl⟩ | ⟨b1, hm', he', hb⟩
  · exact ⟨rfl, rfl, rfl, hr, rfl⟩
  · exact absurd a1 b1
  · exact absurd b1 a1
  · have : m = m' := hm.trans hm'.symm
    subst this
    have hee := he.one he'
    rcases ha with ⟨c1, c2, c3⟩ | ⟨c1, c2, c3⟩ <;> rcases hb with ⟨d1, d2, d3⟩ | ⟨d1, d2, d3⟩
    · exact ⟨rfl, c2.trans d2.symm, c3.trans d3.symm, hr, hee⟩
    · exact absurd c1 d1
    · exact absurd d1 c1
    · exact ⟨rfl, c3.trans d3.symm, c2.trans d2.symm, hr, hee⟩
theorem OpRel.ok {l : List Int} {a : Int} {rl : Nat → List Int} {k2 k3 : Int} {f t : Nat} {whole : Bool} {m : List Int} {at_ md : Int} {r : Nat → List Int} {e : List Spl} (h : OpRel l a rl k2 k3 f t whole m at_ md r e) : OpOk l rl k2 k3 f t :=
  ⟨h.1, fun hlt => let ⟨i, m', h1, h2, _⟩ := h.2.1.2 hlt; ⟨i, m', h1, h2⟩⟩
theorem PasteRel.one {l : List Int} {n p : Nat} {rl : Nat → List Int} {k1 k2 : Int} {m m' : List Int} {at_ at' : Int} {e e' : List Spl} (h : PasteRel l n p rl k1 k2 m at_ e) (h' : PasteRel l n p rl k1 k2 m' at' e') : m = m' ∧ at_ = at' ∧ e = e' := by
  obtain ⟨_, hm, he, ha⟩ := h
  obtain ⟨_, hm', he', ha'⟩ := h'
  have : m = m' := hm.trans hm'.symm
  subst this
  exact ⟨rfl, ha.trans ha'.symm, he.one he'⟩
theorem PlainRel.one {l : List Int} {n a : Nat} {rl : Nat → List Int} {k1 k2 v k5 : Int} {m m' : List Int} {at_ at' md md' : Int} {e e' : List Spl} (h : PlainRel l n a rl k1 k2 v k5 m at_ md e) (h' : PlainRel l n a rl k1 k2 v k5 m' at' md' e') : m = m' ∧ at_ = at' ∧ md = md' ∧ e = e' := by
  rcases h with ⟨hv, h, hd⟩ | ⟨hv, h, hd⟩ | ⟨hv, _, hm, he, ha, hd⟩ | ⟨hv, _, hm, he, ha, hd⟩ | ⟨rfl, rfl, h⟩ <;> rcases h' with ⟨gv, g, gd⟩ | ⟨gv, g, gd⟩ | ⟨gv, _, gm, ge, ga, gd⟩ | ⟨gv, _, gm, ge, ga, gd⟩ | ⟨rfl, rfl, g⟩
  case inl.inl => obtain ⟨h1, h2, h3⟩ := h.one g; exact ⟨h1, h2, hd.trans gd.symm, h3⟩
  case inr.inl.inr.inl => obtain ⟨h1, h2, h3⟩ := h.one g; exact ⟨h1, h2, hd.trans gd.symm, h3⟩
  case inr.inr.inl.inr.inr.inl =>
    have : m = m' := hm.trans gm.symm
    subst this
    exact ⟨rfl, ha.trans ga.symm, hd.trans gd.symm, he.one ge⟩
  case inr.inr.inr.inl.inr.inr.inr.inl =>
    have : m = m' := hm.trans gm.symm
    subst this
    exact ⟨rfl, ha.trans ga.symm, hd.trans gd.symm, he.one ge⟩
  case inr.inr.inr.inr.inr.inr.inr.inr =>
    refine ⟨rfl, ?_, ?_, rfl⟩
    · rcases h with ⟨h1, h2, _⟩ | ⟨h1, h2, _⟩ | ⟨h1, h2, _⟩ | ⟨h1, h2, _⟩ | ⟨h1, h2, _⟩ <;> rcases g with ⟨g1, g2, _⟩ | ⟨g1, g2, _⟩ | ⟨g1, g2, _⟩ | ⟨g1, g2, _⟩ | ⟨g1, g2, _⟩ <;> omega
    · rcases h with ⟨h1, _, h2⟩ | ⟨h1, _, h2⟩ | ⟨h1, _, h2⟩ | ⟨h1, _, h2⟩ | ⟨h1, _, h2⟩ <;> rcases g with ⟨g1, _, g2⟩ | ⟨g1, _, g2⟩ | ⟨g1, _, g2⟩ | ⟨g1, _, g2⟩ | ⟨g1, _, g2⟩ <;> omega
  all_goals
    exfalso
    first
      | omega
      | (rcases h with ⟨h1, _⟩ | ⟨h1, _⟩ | ⟨h1, _⟩ | ⟨h1, _⟩ | ⟨h1, _⟩ <;> omega)
      | (rcases g with ⟨h1, _⟩ | ⟨h1, _⟩ | ⟨h1, _⟩ | ⟨h1, _⟩ | ⟨h1, _⟩ <;> omega)
theorem PlainRel.ok {l : List Int} {n a : Nat} {rl : Nat → List Int} {k1 k2 v k5 : Int} {m : List Int} {at_ md : Int} {e : List Spl} (h : PlainRel l n a rl k1 k2 v k5 m at_ md e) : PlainOk n a rl k1 k2 v := by
  rcases h with ⟨rfl, h, hd⟩ | ⟨rfl, h, hd⟩ | ⟨rfl, h0, _⟩ | ⟨rfl, h0, _⟩ | ⟨_, _, h⟩
  · exact ⟨fun _ => h.1, fun h => (by omega), fun h => (by omega), by omega⟩
  · exact ⟨fun _ => h.1, fun h => (by omega), fun h => (by omega), by omega⟩
  · exact ⟨fun h => (by omega), fun _ => h0, fun h => (by omega), by omega⟩
  · exact ⟨fun h => (by omega), fun h => (by omega), fun _ => h0, by omega⟩
  · have hv : v = 105 ∨ v = 73 ∨ v = 97 ∨ v = 65 ∨ v = 82 := by
      rcases h with ⟨h1, _⟩ | ⟨h1, _⟩ | ⟨h1, _⟩ | ⟨h1, _⟩ | ⟨h1, _⟩ <;> omega
    exact ⟨fun h => (by omega), fun h => (by omega), fun h => (by omega), by omega⟩
theorem SpanIs.one {l : List Int} {n a : Nat} {o v k5 : Int} {f t f' t' : Nat} {w w' : Bool} (h : SpanIs l n a o v k5 f t w) (h' : SpanIs l n a o v k5 f' t' w') : f = f' ∧ t = t' ∧ w = w' := by
  rcases h with ⟨h1, rfl, rfl, rfl⟩ | ⟨h1, _, rfl, h2⟩ <;> rcases h' with ⟨g1, rfl, rfl, rfl⟩ | ⟨g1, _, rfl, g2⟩
  · exact ⟨rfl, rfl, rfl⟩
  · exact absurd h1 g1
  · exact absurd g1 h1
  · obtain ⟨e1, e2, _⟩ := ofK_one h2 g2
    exact ⟨by omega, by omega, rfl⟩
theorem DoRelV.one {l : List Int} {n a : Nat} {rl r r' : Nat → List Int} {k1 k2 o v k5 fk fa zk za zk' za' : Int} {m m' : List Int} {at_ at' md md' : Int} {e e' : List Spl} (h : DoRelV l n a rl k1 k2 o v k5 fk fa m at_ md zk za r e) (h' : DoRelV l n a rl k1 k2 o v k5 fk fa m' at' md' zk' za' r' e') (ha : a ≤ n - 1) : m = m' ∧ at_ = at' ∧ md = md' ∧ zk = zk' ∧ za = za' ∧ r = r' ∧ e = e' := by
  rcases h with ⟨hm, mk, ma, hf, h⟩ | ⟨hm, ho, h1, h2, h3, h⟩ | ⟨hm, ho, h1, h2, f, t, wh, hft, _, hs, h⟩ <;> rcases h' with ⟨gm, mk', ma', gf, g⟩ | ⟨gm, go, g1, g2, g3, g⟩ | ⟨gm, go, g1, g2, f', t', wh', gft, _, gs, g⟩
  · rw [hf] at gf
    injection gf with gf
    simp only [Prod.mk.injEq] at gf
    obtain ⟨rfl, rfl, rfl, rfl⟩ := gf
    rcases h with ⟨ho, h1, rfl, rfl, rfl, rfl⟩ | ⟨ho, f, t, h1, h2⟩ <;> rcases g with ⟨go, g1, rfl, rfl, rfl, rfl⟩ | ⟨go, f', t', g1, g2⟩
    · exact ⟨rfl, h1.one g1, rfl, rfl, rfl, rfl, rfl⟩
    · exact absurd ho go
    · exact absurd go ho
    · obtain ⟨rfl, rfl⟩ := h1.one g1
      obtain ⟨e1, e2, e3, e4, e5⟩ := h2.one (h1.bd ha).2.2.1 g2
      exact ⟨e1, e2, e3, rfl, rfl, e4, e5⟩
  · rw [hm] at gm; cases gm
  · rw [hm] at gm; cases gm
  · rw [hm] at gm; cases gm
  · obtain ⟨e1, e2, e3, e4⟩ := h.one g
    exact ⟨e1, e2, e3, h1.trans g1.symm, h2.trans g2.symm, h3.trans g3.symm, e4⟩
  · exact absurd ho go
  · rw [hm] at gm; cases gm
  · exact absurd go ho
  · obtain ⟨rfl, rfl, rfl⟩ := hs.one gs
    obtain ⟨e1, e2, e3, e4, e5⟩ := h.one hft g
    exact ⟨e1, e2, e3, h1.trans g1.symm, h2.trans g2.symm, e4, e5⟩
theorem DoRelV.ok {l : List Int} {n a : Nat} {rl r : Nat → List Int} {k1 k2 o v k4 k5 fk fa zk za : Int} {m : List Int} {at_ md : Int} {e : List Spl} (h : DoRelV l n a rl k1 k2 o v k5 fk fa m at_ md zk za r e) (hv : o = 0 → v = k4) : OneOk l n a rl k1 k2 o v k5 fk fa (PlainOk n a rl k1 k2 k4) := by
  rcases h with ⟨hm, mk, ma, hf, h⟩ | ⟨hm, ho, h1, h2, h3, h⟩ | ⟨hm, ho, h1, h2, f, t, wh, hft, _, hs, h⟩
  · refine ⟨fun _ => ⟨mk, ma, zk, za, hf, ?_⟩, fun h => (by rw [hm] at h; cases h), fun h => (by rw [hm] at h; cases h)⟩
    rcases h with ⟨ho, h1, _⟩ | ⟨ho, f, t, h1, h2⟩
    · obtain ⟨hok, y, i, h3, _⟩ := h1
      refine ⟨hok, fun hn => ?_, fun h => absurd ho h⟩
      rw [show decide (o ≠ 0) = false by simp [ho]] at hn
      have := goR_one hn h3
      cases this
    · have h1' := h1
      obtain ⟨hok, y, i, h3, _⟩ := h1
      refine ⟨hok, fun hn => ?_, fun _ f' t' hr => ?_⟩
      · rw [show decide (o ≠ 0) = true by simp [ho]] at hn
        have := goR_one hn h3
        cases this
      · obtain ⟨rfl, rfl⟩ := h1'.one hr
        exact h2.ok
  · refine ⟨fun h => (by rw [hm] at h; cases h), fun _ _ => ?_, fun _ h => absurd ho h⟩
    rw [← hv ho]
    exact h.ok
  · refine ⟨fun h => (by rw [hm] at h; cases h), fun _ h => absurd h ho, fun _ _ => ?_⟩
    rcases hs with ⟨s1, rfl, rfl, _⟩ | ⟨s1, s2, _, s3⟩
    · exact .inl ⟨s1, h.ok⟩
    · exact .inr ⟨s1, s2, f, t, s3, h.ok⟩
end Go.Proofs.Ytmhgndjmcignjaa
