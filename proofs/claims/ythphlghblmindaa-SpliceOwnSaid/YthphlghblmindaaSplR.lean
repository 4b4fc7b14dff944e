/-
  splice's reader: the walk of at.
-/
import Derived.Test.YthphlghblmindaaSplA
import Derived.Test.YthphlghblmindaaSplP
import Derived.BigRegion
namespace Go.Proofs.Ythphlghblmindaa
open Go.RowKit
set_option linter.unusedVariables false
set_option linter.unusedSimpArgs false

theorem elem_edit : Try.prog.underlying 39 = some (.slice (Try.prog.elem 39)) := by kernel_rfl
theorem size_spl (w : World) : (sizeOf (Try.prog.elem 39)).run Try.prog w = .ok 3 w := by kernel_rfl
/-- Where e[1:] begins. -/
def tl3 (A : Option Addr) (c : Nat) : Option Addr := if c = 1 then A else A.map (·.add 3)
theorem run_tl3 (A : Option Addr) (n c : Nat) (h1 : 1 ≤ n) (u : World) :
    (Instr.slice 39 (.slice A n c) (some (.int .i64 1)) none none).run Try.prog u = .ok (.slice (tl3 A c) (n - 1) (c - 1)) u := by
  have h := run_slice_l (P := Try.prog) u 39 A n c elem_edit .i64 1 (by omega) (by omega)
  rw [size_spl] at h
  simpa [sliced, tl3, Result.andThen] using h

theorem EditAt.tail {w : World} {A : Option Addr} {n c : Nat} {s : Spl} {e : List Spl} (h : EditAt w A n c (s :: e)) : EditAt w (tl3 A c) (n - 1) (c - 1) e := by
  have hn : e.length + 1 = n := h.len
  obtain ⟨xs, ⟨h1, h2, h3, h4⟩, h5, h6⟩ := h
  have hd : (xs.drop 3).length = e.length * 3 := by rw [List.length_drop, h5]; simp; omega
  refine ⟨xs.drop 3, ⟨by rw [hd]; omega, by omega, by omega, fun h0 => ?_⟩, hd, fun i hi => ?_⟩
  · obtain ⟨ad, rfl, hc⟩ := h4 (by omega)
    refine ⟨ad.add 3, ?_, fun j u hu => ?_⟩
    · unfold tl3; rw [if_neg (by omega)]; rfl
    · rw [List.getElem?_drop] at hu
      have := hc _ _ hu
      rw [← add_of_add] at this
      exact this
  · obtain ⟨B, m, d, k1, k2, k3, k4, k5⟩ := h6 (i + 1) (by simp; omega)
    have e1 : gE (s :: e) (i + 1) = gE e i := by simp [gE]
    rw [e1] at k1 k2 k4
    refine ⟨B, m, d, ?_, ?_, ?_, k4, k5⟩
    · rw [List.getElem?_drop]; rw [show 3 + i * 3 = (i + 1) * 3 by omega]; exact k1
    · rw [List.getElem?_drop]; rw [show 3 + (i * 3 + 1) = (i + 1) * 3 + 1 by omega]; exact k2
    · rw [List.getElem?_drop]; rw [show 3 + (i * 3 + 2) = (i + 1) * 3 + 2 by omega]; exact k3

/-- How long a slice value is. -/
def lenAt : Option Value → Nat
  | some (.slice _ n _) => n
  | _ => 0

/-- From w to w' the world has grown, and this block has been written. -/
def Keeps1 (w w' : World) (g : Nat) : Prop := ∀ P : World → Prop, (∀ a b, Ext a b → P a → P b) → (∀ a i u, P a → P (a.setCell ⟨g, i, none⟩ u)) → P w → P w'
theorem Keeps1.refl (w : World) (g : Nat) : Keeps1 w w g := fun _ _ _ h => h
theorem Keeps1.trans {a b c : World} {g : Nat} (h : Keeps1 a b g) (k : Keeps1 b c g) : Keeps1 a c g := fun P h1 h2 h3 => k P h1 h2 (h P h1 h2 h3)
theorem Keeps1.ext {a b : World} {g : Nat} (h : Ext a b) : Keeps1 a b g := fun P h1 _ h3 => h1 _ _ h h3
theorem Keeps1.set {w : World} {g i : Nat} {u : Value} : Keeps1 w (w.setCell ⟨g, i, none⟩ u) g := fun P _ h2 h3 => h2 _ _ _ h3
theorem Keeps1.world {w0 w w' : World} {g : Nat} (h : Keeps1 w w' g) (hx : Ext w0 w) (hg : w0.heap.size ≤ g) : Ext w0 w' :=
  h (Ext w0) (fun _ _ h1 h2 => h2.trans h1) (fun _ _ _ h1 => h1.setCell hg _) hx
theorem Blk.setOther {w : World} {g q t i : Nat} {cs : Array Value} {u : Value} (h : Blk w q t cs) (hne : g ≠ q) : Blk (w.setCell ⟨g, i, none⟩ u) q t cs := by
  unfold Blk at h ⊢
  unfold World.setCell
  simp only [Array.getElem?_modify, hne, if_false, h]
theorem Keeps1.blk {w w' : World} {g q t : Nat} {cs : Array Value} (h : Keeps1 w w' g) (hne : g ≠ q) (hb : Blk w q t cs) : Blk w' q t cs :=
  h (fun a => Blk a q t cs) (fun _ _ h1 h2 => h2.ext h1) (fun _ _ _ h1 => h1.setOther hne) hb

set_option maxRecDepth 20000 in
set_option maxHeartbeats 4000000 in
theorem at_ok {w0 w : World} {gr i : Nat} {E : Option Addr} {m d : Nat} {e : List Spl} (hb : Blk w gr 90 #[.slice E m d]) (he : EditAt w0 E m d e) (hx : Ext w0 w) (hg : w0.heap.size ≤ gr) (hi : i ≤ 8192) :
    Calls Try.prog 48 #[.pointer (some ⟨gr, 0, none⟩), .int .i64 i] w fun e' w' => (∃ E' m' d' B n c, e' = .returned (.tuple #[.slice B n c, .bool (rdGoes i (rdSkip i e))]) ∧ Ints w0 B n c (rdText i (rdSkip i e)) ∧ (B = none → c = 0) ∧ Blk w' gr 90 #[.slice E' m' d'] ∧ EditAt w0 E' m' d' (rdSkip i e)) ∧ Keeps1 w w' gr := by
  have HX := Lib.hid hx
  have HI := Lib.hid hi
  go_enter Try.func48, Try.ntmps48
  go_wp2_with fail
  go_loopw [] (fun wr => ∃ (E' : Option Addr) (m' d' : Nat) (er : List Spl), Blk wr gr 90 #[.slice E' m' d'] ∧ EditAt w0 E' m' d' er ∧ Hid (rdSkip i e = rdSkip i er) ∧ Keeps1 w wr gr) (fun wr => lenAt (wr.cell? ⟨gr, 0, none⟩))
  case atStart => exact ⟨E, m, d, e, hb, he, Lib.hid rfl, Keeps1.refl _ _⟩
  case round =>
    clear hb he
    obtain ⟨E', m', d', er, hb, he, HS, hk⟩ := hrel
    have hxr := hk.world HX.out hg
    have c0 := hb.cell 0
    have f0 := hb.frozen 0
    simp only [List.getElem?_toArray, List.getElem?_cons_zero] at c0
    have hmd := he.ncap
    have hdm := he.nmax
    unfold maxLen at hdm
    cases er with
    | nil =>
      obtain rfl : m' = 0 := he.len.symm
      go_wp2_with fail
      go_ret2
      refine ⟨⟨E', 0, d', none, 0, 0, ?_, ?_, fun _ => rfl, hb, ?_⟩, hk⟩
      · rw [HS.out]; rfl
      · rw [HS.out]; exact Ints.none_ w0
      · rw [HS.out]; exact he
    | cons s er =>
      have hm1 : er.length + 1 = m' := he.len
      obtain ⟨ad, B, x, y, rfl, q0, q1, q2, hB, hB0⟩ := he.at_ (k := 0) (by omega)
      rw [Nat.zero_mul, add_nought] at q0 q1 q2
      have q0 := hxr.cell q0
      have q1 := hxr.cell q1
      have q2 := hxr.cell q2
      have eg : gE (s :: er) 0 = s := rfl
      rw [eg] at q0 q1 hB
      have hcut := run_tl3 (some ad) m' d' (by omega)
      have HE := Lib.hid he
      have HBI := Lib.hid hB
      have HB0 := Lib.hid hB0
      clear he hB hB0 eg
      by_cases hs : s.t < i ∨ (s.t = i ∧ s.f < i)
      · have HS2 : Hid (rdSkip i e = rdSkip i er) := Lib.hid (by rw [HS.out]; simp only [rdSkip]; rw [if_pos hs])
        have HM := Lib.hid hm1
        rcases hs with h1 | ⟨h1, h2⟩
        · generalize s.t = st at *
          generalize s.f = sf at *
          go_wp2_with fail
          go_roundw
          case rel => exact ⟨_, _, _, er, by simpa using hb.set_ 0 (.slice (tl3 (some ad) d') (m' - 1) (d' - 1)), HE.out.tail, HS2, hk.trans Keeps1.set⟩
          case measure =>
            have c9 := (hb.set_ 0 (.slice (tl3 (some ad) d') (m' - 1) (d' - 1))).cell 0
            simp at c9
            rw [c9, c0]; simp only [lenAt]; omega
        · have e1 : (s.t == (i : Int)) = true := by simpa using h1
          have e2 : decide (s.t < (i : Int)) = false := by simp; omega
          clear h1
          generalize s.t = st at *
          generalize s.f = sf at *
          go_wp2_with fail
          go_roundw
          case rel => exact ⟨_, _, _, er, by simpa using hb.set_ 0 (.slice (tl3 (some ad) d') (m' - 1) (d' - 1)), HE.out.tail, HS2, hk.trans Keeps1.set⟩
          case measure =>
            have c9 := (hb.set_ 0 (.slice (tl3 (some ad) d') (m' - 1) (d' - 1))).cell 0
            simp at c9
            rw [c9, c0]; simp only [lenAt]; omega
      · have HS2 : Hid (rdSkip i e = s :: er) := Lib.hid (by rw [HS.out]; simp only [rdSkip]; rw [if_neg hs])
        have n0 : ((m' : Int) == 0) = false := by simp; omega
        have nl : decide (s.t < (i : Int)) = false := by simp; omega
        have hq3 : s.t = (i : Int) → ¬ s.f < (i : Int) := fun h1 h2 => hs (.inr ⟨h1, h2⟩)
        have HT1 : Hid (rdText i (s :: er) = if s.f = (i : Int) then s.x else []) := Lib.hid rfl
        have HG1 : Hid (rdGoes i (s :: er) = (decide (s.f ≤ (i : Int)) && decide ((i : Int) < s.t))) := Lib.hid rfl
        clear hs hcut f0 HS hx hi
        generalize hst : s.t = st at *
        generalize hsf : s.f = sf at *
        clear hst hsf
        rcases Int.lt_trichotomy (i : Int) sf with h1 | h1 | h1
        · have HT2 : Hid (rdText i (rdSkip i e) = []) := Lib.hid (by rw [HS2.out, HT1.out, if_neg (by omega)])
          have HG2 : Hid (rdGoes i (rdSkip i e) = false) := Lib.hid (by rw [HS2.out, HG1.out]; simp; omega)
          clear HT1 HG1
          cases hq : (st == (i : Int)) with
          | true =>
            have hst : st = (i : Int) := by simpa using hq
            have nf : decide (sf < (i : Int)) = false := by simp; omega
            clear hst hq3
            go_wp2_with fail
            go_ret2
            exact ⟨⟨_, _, _, none, 0, 0, by rw [HG2.out] <;> rfl, by rw [HT2.out]; exact Ints.none_ w0, fun _ => rfl, hb, by rw [HS2.out]; exact HE.out⟩, hk⟩
          | false =>
            clear hq3
            go_wp2_with fail
            go_ret2
            exact ⟨⟨_, _, _, none, 0, 0, by rw [HG2.out] <;> rfl, by rw [HT2.out]; exact Ints.none_ w0, fun _ => rfl, hb, by rw [HS2.out]; exact HE.out⟩, hk⟩
        · subst h1
          have HT2 : Hid (rdText i (rdSkip i e) = s.x) := Lib.hid (by rw [HS2.out, HT1.out, if_pos rfl])
          have HG2 : Hid (rdGoes i (rdSkip i e) = decide ((i : Int) < st)) := Lib.hid (by rw [HS2.out, HG1.out]; simp)
          clear HT1 HG1
          cases hq : (st == (i : Int)) with
          | true =>
            clear hq3
            go_wp2_with fail
            go_quiet (fail)
            go_wp2_with fail
            go_ret2
            exact ⟨⟨_, _, _, B, x, y, by rw [HG2.out] <;> rfl, by rw [HT2.out]; exact HBI.out, HB0.out, hb.ext ((Ext.alloc _ _).trans (Ext.drewN _ _)), by rw [HS2.out]; exact HE.out⟩, hk.trans (Keeps1.ext ((Ext.alloc _ _).trans (Ext.drewN _ _)))⟩
          | false =>
            clear hq3
            go_wp2_with fail
            go_quiet (fail)
            go_wp2_with fail
            go_ret2
            exact ⟨⟨_, _, _, B, x, y, by rw [HG2.out] <;> rfl, by rw [HT2.out]; exact HBI.out, HB0.out, hb.ext ((Ext.alloc _ _).trans (Ext.drewN _ _)), by rw [HS2.out]; exact HE.out⟩, hk.trans (Keeps1.ext ((Ext.alloc _ _).trans (Ext.drewN _ _)))⟩
        · have HT2 : Hid (rdText i (rdSkip i e) = []) := Lib.hid (by rw [HS2.out, HT1.out, if_neg (by omega)])
          have HG2 : Hid (rdGoes i (rdSkip i e) = decide ((i : Int) < st)) := Lib.hid (by rw [HS2.out, HG1.out]; simp; omega)
          have nf : (sf == (i : Int)) = false := by simp; omega
          clear HT1 HG1
          cases hq : (st == (i : Int)) with
          | true =>
            have hst : st = (i : Int) := by simpa using hq
            exact absurd h1 (hq3 hst)
          | false =>
            clear hq3
            go_wp2_with fail
            go_quiet (fail)
            go_wp2_with fail
            go_ret2
            exact ⟨⟨_, _, _, none, 0, 0, by rw [HG2.out] <;> rfl, by rw [HT2.out]; exact Ints.none_ w0, fun _ => rfl, hb.ext ((Ext.alloc _ _).trans (Ext.drewN _ _)), by rw [HS2.out]; exact HE.out⟩, hk.trans (Keeps1.ext ((Ext.alloc _ _).trans (Ext.drewN _ _)))⟩
end Go.Proofs.Ythphlghblmindaa
