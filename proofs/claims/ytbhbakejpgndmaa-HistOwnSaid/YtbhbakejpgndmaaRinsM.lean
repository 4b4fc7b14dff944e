/-
  The ring of strings: what it holds, in plain words; slices of strings; the ring's block.
-/
import Derived.Test.YtbhbakejpgndmaaHisM
namespace Go.Proofs.Ytbhbakejpgndmaa.RS
open Go.RowKit
set_option linter.unusedVariables false

/-- A slice value. -/
structure Sl where
  a : Option Addr
  n : Nat
  c : Nat
def Sl.v (s : Sl) : Value := .slice s.a s.n s.c
def Sl.zero : Sl := ⟨none, 0, 0⟩
/-- The k-th; behind a name. -/
def gS (l : List Sl) (k : Nat) : Sl := l[k]?.getD Sl.zero
/-- The slice reads as these strings. -/
def Strs (w : World) (A : Option Addr) (n c : Nat) (l : List Sl) : Prop := Rd w 1 A n c (l.map Sl.v)
theorem Strs.len {w : World} {A : Option Addr} {n c : Nat} {l : List Sl} (h : Strs w A n c l) : l.length = n := by
  have := Rd.len h; simpa using this
theorem Strs.ext {w w' : World} {A : Option Addr} {n c : Nat} {l : List Sl} (h : Strs w A n c l) (he : Ext w w') : Strs w' A n c l := Rd.ext h he
theorem Strs.ncap {w : World} {A : Option Addr} {n c : Nat} {l : List Sl} (h : Strs w A n c l) : n ≤ c := Rd.ncap h
theorem Strs.nmax {w : World} {A : Option Addr} {n c : Nat} {l : List Sl} (h : Strs w A n c l) : c ≤ maxLen := Rd.nmax h
theorem Strs.at_ {w : World} {A : Option Addr} {n c : Nat} {l : List Sl} (h : Strs w A n c l) {k : Nat} (hk : k < n) :
    ∃ ad, A = some ad ∧ ∀ j, j < n → w.cell? (ad.add j) = some (.slice (gS l j).a (gS l j).n (gS l j).c) := by
  obtain ⟨ad, e, hc⟩ := Rd.at_ h hk
  refine ⟨ad, e, fun j hj => hc j _ ?_⟩
  have hl := h.len
  simp [gS, Sl.v, show j < l.length by omega]
/-- l[:k] -/
theorem Strs.front {w : World} {A : Option Addr} {n c : Nat} {l : List Sl} (h : Strs w A n c l) {k : Nat} (hk : k ≤ n) : Strs w A k c (l.take k) := by
  have h1 := h.len
  have h2 := Rd.ncap h
  refine ⟨by simp; omega, by omega, Rd.nmax h, fun hn => ?_⟩
  obtain ⟨ad, e, hc⟩ := Rd.at_ h (k := 0) (by omega)
  refine ⟨ad, e, fun j u hu => hc j u ?_⟩
  rw [List.map_take, List.getElem?_take] at hu
  split at hu
  · exact hu
  · cases hu
/-- l[k:] -/
theorem Strs.back {w : World} {a : Addr} {n c : Nat} {l : List Sl} (h : Strs w (some a) n c l) {k : Nat} (hk : k ≤ n) : Strs w (some (a.add k)) (n - k) (c - k) (l.drop k) := by
  have h1 := h.len
  have h2 := Rd.ncap h
  have h3 := Rd.nmax h
  refine ⟨by simp; omega, by omega, by omega, fun hn => ⟨_, rfl, fun j u hu => ?_⟩⟩
  obtain ⟨ad, e, hc⟩ := Rd.at_ h (k := 0) (by omega)
  injection e with e
  subst e
  rw [add_of_add]
  refine hc _ u ?_
  rw [← hu, List.map_drop, List.getElem?_drop]
theorem Strs.cut {w : World} {A : Option Addr} {n c : Nat} {l : List Sl} (h : Strs w A n c l) {k m : Nat} (hk : k ≤ m) (hm : m ≤ n) :
    Strs w (if c = k then A else A.map (·.add k)) (m - k) (c - k) ((l.drop k).take (m - k)) := by
  have := Rd.cut h hk hm
  unfold Strs
  rw [List.map_take, List.map_drop]
  simpa using this
theorem Strs.none_ (w : World) : Strs w none 0 0 [] := Rd.none_ w 1
/-- A row of the call's own, of strings. -/
def OwnS (w : World) (base : Nat) (A : Option Addr) (n c : Nat) (l : List Sl) : Prop := Own w base 22 1 A n c (l.map Sl.v)
theorem OwnS.strs {w : World} {base n c : Nat} {A : Option Addr} {l : List Sl} (h : OwnS w base A n c l) : Strs w A n c l := Own.rd h
theorem OwnS.nil (w : World) (base : Nat) : OwnS w base none 0 0 [] := World.ownsRow_nil w base _ _

/-- Slot k % n of a ring of n slots, j strings having been pushed, holds string k, if it is among the last. -/
def slotsOk (l ss : List Sl) (n j : Nat) : Prop := ss.length = n ∧ ∀ k, k < j → j ≤ k + n → gS ss (k % n) = gS l k

theorem slots_start (l ss : List Sl) {n : Nat} (h : ss.length = n) : slotsOk l ss n 0 := ⟨h, fun k hk => absurd hk (Nat.not_lt_zero _)⟩
theorem slots_push {l ss : List Sl} {n j : Nat} (hn : 0 < n) (h : slotsOk l ss n j) : slotsOk l (ss.set (j % n) (gS l j)) n (j + 1) := by
  obtain ⟨h1, h2⟩ := h
  have hj : j % n < n := Nat.mod_lt _ hn
  refine ⟨by simp [h1], fun k hk hk2 => ?_⟩
  rcases Nat.lt_or_ge k j with h | h
  · have hne : j % n ≠ k % n := fun e => by
      have h3 := Nat.sub_mod_eq_zero_of_mod_eq e
      rw [Nat.mod_eq_of_lt (by omega)] at h3
      omega
    rw [← h2 k h (by omega)]
    unfold gS
    rw [List.getElem?_set_ne hne]
  · obtain rfl : k = j := by omega
    unfold gS
    rw [List.getElem?_set_self (by omega)]
    rfl
/-- What a ring of n slots holds of the first j strings. -/
theorem slots_at {l ss : List Sl} {n j k : Nat} (hn : 0 < n) (h : slotsOk l ss n j) (hk : k < min j n) : gS ss (((j - min j n) % n + k) % n) = gS l (j - min j n + k) := by
  rw [Nat.mod_add_mod]
  exact h.2 _ (by omega) (by omega)
end Go.Proofs.Ytbhbakejpgndmaa.RS
