/-
  What hist.Add, hist.Up and hist.Find answer, said alike whether they go or not, in memory of the call's own.
-/
import Derived.Test.YtbhbakejpgndmaaOwhA
namespace Go.Proofs.Ytbhbakejpgndmaa
open Go.RowKit
set_option linter.unusedVariables false
open Classical

/-- No history. -/
def zeroH : Hi := ⟨[], 0, 0, [], [], false⟩
theorem zero_his (w : World) (b : Nat) : HisO w b (.agg hisZ) zeroH :=
  ⟨none, 0, 0, none, 0, 0, none, 0, 0, rfl, ⟨[], Own.nil _ _ _ _, ⟨rfl, fun i hi => absurd hi (by simp [zeroH])⟩, fun _ => rfl⟩, ⟨none, 0, 0, rfl, OwnI.nil _ _, fun _ => rfl, by omega⟩, ⟨none, 0, 0, rfl, OwnI.nil _ _, fun _ => rfl, by omega⟩⟩
theorem zero_hisN (w : World) (b : Nat) (L : Value) : HisN w b L (.agg hisZ) zeroH := fun w' _ => zero_his w' b

noncomputable def addR (h : Hi) (line : List Int) : Hi := if AOk h line then addH h line else zeroH
theorem add_u {w : World} {v : Value} {h : Hi} {N : Option Addr} {q y : Nat} {line : List Int} (hv : HisV w v h) (hln : Ints w N q y line) (hN : N = none → y = 0) :
    Calls Try.prog 33 #[v, .slice N q y] w fun e w' => ∃ u x, e = .returned (.tuple #[u, .int .i64 x]) ∧ HisO w' w.heap.size u (addR h line) ∧ Ext w w' := by
  refine (add_ok hv hln hN).mono ?_
  rintro e w' ⟨he, ⟨hok, u, rfl, ho⟩ | ⟨hok, x, rfl, _⟩⟩
  · exact ⟨u, 0, rfl, by unfold addR; rw [if_pos hok]; exact ho, he⟩
  · exact ⟨_, x, rfl, by unfold addR; rw [if_neg hok]; exact zero_his _ _, he⟩

noncomputable def upR (h : Hi) (now : List Int) (k : Int) : Hi := if Good h now k ∧ (farH k : Int) ≤ h.at_ then toH h now (h.at_.toNat - farH k) else zeroH
noncomputable def upL (h : Hi) (now : List Int) (k : Int) : List Int := if Good h now k ∧ (farH k : Int) ≤ h.at_ then toL h now (h.at_.toNat - farH k) else []
theorem up_u {w : World} {v : Value} {h : Hi} {N : Option Addr} {q y : Nat} {now : List Int} {k : Int} (hv : HisV w v h) (hnow : Ints w N q y now) (hN : N = none → y = 0) :
    Calls Try.prog 28 #[v, .slice N q y, .int .i64 k] w fun e w' => ∃ u L m z x, e = .returned (.tuple #[u, .slice L m z, .int .i64 x]) ∧ HisN w' w.heap.size (.slice L m z) u (upR h now k) ∧ OwnI w' w.heap.size L m z (upL h now k) ∧ Ext w w' := by
  refine (up_far hv hnow hN).mono ?_
  rintro e w' ⟨he, ⟨hok, u, L, m, z, rfl, _, hl, _, hn⟩ | ⟨hok, x, rfl, _⟩⟩
  · exact ⟨u, L, m, z, 0, rfl, by unfold upR; rw [if_pos hok]; exact hn, by unfold upL; rw [if_pos hok]; exact hl, he⟩
  · exact ⟨_, none, 0, 0, x, rfl, by unfold upR; rw [if_neg hok]; exact zero_hisN _ _ _, by unfold upL; rw [if_neg hok]; exact OwnI.nil _ _, he⟩

noncomputable def findR (h : Hi) (now p : List Int) (older : Bool) : Hi := if hk : ∃ k, FOk h now p older k then findH h now p older hk.choose else zeroH
noncomputable def findL (h : Hi) (now p : List Int) (older : Bool) : List Int := if hk : ∃ k, FOk h now p older k then toL h now hk.choose else []
theorem fok_one {h : Hi} {now p : List Int} {older : Bool} {k j : Nat} (h1 : FOk h now p older k) (h2 : FOk h now p older j) : k = j := by
  have := h1.2.2.2.symm.trans h2.2.2.2
  injection this
theorem find_u {w : World} {v : Value} {h : Hi} {N T0 : Option Addr} {q y t0 z0 : Nat} {now p : List Int} {older : Bool} (hv : HisV w v h) (hnow : Ints w N q y now) (hN : N = none → y = 0) (hp : Ints w T0 t0 z0 p) (hp0 : T0 = none → z0 = 0) :
    Calls Try.prog 35 #[v, .slice N q y, .slice T0 t0 z0, .bool older] w fun e w' => ∃ u L m z x, e = .returned (.tuple #[u, .slice L m z, .int .i64 x]) ∧ HisN w' w.heap.size (.slice L m z) u (findR h now p older) ∧ OwnI w' w.heap.size L m z (findL h now p older) ∧ Ext w w' := by
  refine (find_far hv hnow hN hp hp0).mono ?_
  rintro e w' ⟨he, ⟨k, hok, _, u, L, m, z, rfl, _, hl, _, hn⟩ | ⟨hok, x, rfl, _⟩⟩
  · have hk : ∃ k, FOk h now p older k := ⟨k, hok⟩
    have e1 : hk.choose = k := fok_one hk.choose_spec hok
    exact ⟨u, L, m, z, 0, rfl, by unfold findR; rw [dif_pos hk, e1]; exact hn, by unfold findL; rw [dif_pos hk, e1]; exact hl, he⟩
  · have hk : ¬ ∃ k, FOk h now p older k := fun ⟨k, hh⟩ => hok k hh
    exact ⟨_, none, 0, 0, x, rfl, by unfold findR; rw [dif_neg hk]; exact zero_hisN _ _ _, by unfold findL; rw [dif_neg hk]; exact OwnI.nil _ _, he⟩

/-! What stays when other blocks are written. -/
/-- v reads as h, in blocks from b to t; the blocks of L are none of its. -/
def HisT (t : Nat) (w : World) (b : Nat) (L v : Value) (h : Hi) : Prop := t ≤ w.heap.size ∧ ∀ w' : World, (∀ k, b ≤ k → k < t → L.ownBlock ≠ some k → w'.heap[k]? = w.heap[k]?) → HisO w' b v h
theorem HisN.toT {w : World} {b : Nat} {L v : Value} {h : Hi} (hh : HisN w b L v h) : HisT w.heap.size w b L v h := ⟨Nat.le_refl _, hh⟩
theorem HisO.toT {w : World} {b : Nat} {v : Value} {h : Hi} (hh : HisO w b v h) : HisT w.heap.size w b (.slice none 0 0) v h := ⟨Nat.le_refl _, fun w' h2 => hh.win fun k h3 h4 => h2 k h3 h4 (fun e => by cases e)⟩
theorem HisT.o {t : Nat} {w : World} {b : Nat} {L v : Value} {h : Hi} (hh : HisT t w b L v h) : HisO w b v h := hh.2 w fun _ _ _ _ => rfl
theorem HisT.keep {t : Nat} {w w' : World} {b : Nat} {L v : Value} {h : Hi} (hh : HisT t w b L v h) (hs : w.heap.size ≤ w'.heap.size) (hw : ∀ k, b ≤ k → k < t → L.ownBlock ≠ some k → w'.heap[k]? = w.heap[k]?) : HisT t w' b L v h :=
  ⟨Nat.le_trans hh.1 hs, fun w'' h2 => hh.2 w'' fun k h3 h4 h5 => (h2 k h3 h4 h5).trans (hw k h3 h4 h5)⟩
theorem HisT.ext {t : Nat} {w w' : World} {b : Nat} {L v : Value} {h : Hi} (hh : HisT t w b L v h) (he : Ext w w') : HisT t w' b L v h := hh.keep he.hsize fun k _ h2 _ => he.block k (Nat.lt_of_lt_of_le h2 hh.1)
theorem HisT.grown {t : Nat} {w w' : World} {b g : Nat} {L v : Value} {h : Hi} (hh : HisT t w b L v h) (hg : w.grownBy w' (some g)) (hn : g < b ∨ t ≤ g ∨ L.ownBlock = some g) : HisT t w' b L v h :=
  hh.keep hg.size fun k h1 h2 h3 => hg.block k (Nat.lt_of_lt_of_le h2 hh.1) (fun e => by
    injection e with e; subst e
    rcases hn with hn | hn | hn
    · omega
    · omega
    · exact h3 hn)
theorem HisT.grownO {t : Nat} {w w' : World} {b : Nat} {L v : Value} {h : Hi} {row : Option Nat} (hh : HisT t w b L v h) (hg : w.grownBy w' row) (hn : ∀ g, row = some g → g < b ∨ t ≤ g ∨ L.ownBlock = some g) : HisT t w' b L v h :=
  hh.keep hg.size fun k h1 h2 h3 => hg.block k (Nat.lt_of_lt_of_le h2 hh.1) (fun e => by
    rcases hn k e.symm with hn | hn | hn
    · omega
    · omega
    · exact h3 hn)
theorem GrowLow.hisT {t : Nat} {b bb : Nat} {w w' : World} (hl : GrowLow b w w') {L v : Value} {h : Hi} (hh : HisT t w bb L v h) (hb : b ≤ bb) : HisT t w' bb L v h :=
  hl (fun x => HisT t x bb L v h) (fun a c g h1 h2 h3 => h1.grown h2 (.inl (by omega))) hh
end Go.Proofs.Ytbhbakejpgndmaa
