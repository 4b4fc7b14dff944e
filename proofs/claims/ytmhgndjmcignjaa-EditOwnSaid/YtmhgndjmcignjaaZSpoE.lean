/-
  Edits of the call's own, where rows below have been spoilt.
-/
import Derived.Test.YtmhgndjmcignjaaZJ3
import Derived.Test.YtmhgndjmcignjaaZJ12

namespace Go.Proofs.Ytmhgndjmcignjaa
open Go.RowKit
set_option linter.unusedVariables false
set_option linter.unusedSimpArgs false

theorem GrowLow.edOwn {b bb : Nat} {w w' : World} (h : GrowLow b w w') {v : Value} {e : List Spl} (he : EdOwn w bb v e) (hb : b ≤ bb) : EdOwn w' bb v e :=
  h (fun x => EdOwn x bb v e) (fun a c g h1 h2 h3 => h1.kept h2 (fun k hk => by injection hk with hk; omega)) he
/-! The four, whatever comes. -/
theorem sameEd {w : World} {b b' n c m d : Nat} {A B : Option Addr} {e : List Spl} (h : EdOwn w b (.slice A n c) e) (h' : EdOwn w b' (.slice B m d) e) :
    Calls Try.prog 19 #[.slice A n c, .slice B m d] w fun e w' => e = .returned (.bool true) ∧ Ext w w' := by
  obtain ⟨O, k, cc, e1, h1⟩ := h.at_
  obtain ⟨O', k', cc', e1', h1'⟩ := h'.at_
  injection e1 with e1 e2 e3
  injection e1' with f1 f2 f3
  subst e1; subst e2; subst e3; subst f1; subst f2; subst f3
  obtain rfl : n = m := by rw [← h1.len, ← h1'.len]
  exact sameEdit_ok h1 h1'
theorem own_ne_int {w : World} {base n c g : Nat} {A : Option Addr} {xs : List Value} {cs : Array Value} (h : Own w base 64 3 A n c xs) (hb : Blk w g 3 cs) : (Value.slice A n c).ownBlock = none ∨ (Value.slice A n c).ownBlock ≠ some g := by
  rcases h.2 with ⟨hv, _⟩ | ⟨g', cap, cur, hv, _, hg, _⟩
  · rw [hv]; exact .inl rfl
  · rw [hv]
    refine .inr fun e => ?_
    have e : some g' = some g := e
    injection e with e
    subst e
    unfold Blk at hb
    rw [hb] at hg
    injection hg with hg
    injection hg with _ hg
    exact absurd hg (by decide)
end Go.Proofs.Ytmhgndjmcignjaa
