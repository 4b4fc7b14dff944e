/-
  The walk of hist.Check.
-/
import Derived.Test.YtbhbakejpgndmaaHisM
import Derived.Test.YtbhbakejpgndmaaApp
import Derived.Deep.RegionHeld3
import Derived.Deep.DeepCutAuto
namespace Go.Proofs.Ytbhbakejpgndmaa
open Go.RowKit
set_option linter.unusedVariables false
set_option linter.unusedSimpArgs false

/-- A history. -/
structure Hi where
  lines : List (List Int)
  most : Int
  at_ : Int
  scratch : List Int
  pattern : List Int
  older : Bool
def Hi.zero : Hi := ⟨[], 0, 0, [], [], false⟩
def hisC (A : Option Addr) (n c : Nat) (mo at_ : Int) (S : Option Addr) (sn sc : Nat) (P : Option Addr) (pn pc : Nat) (o : Bool) : Array Value := #[.slice A n c, .int .i64 mo, .int .i64 at_, .slice S sn sc, .slice P pn pc, .bool o]
/-- The value is a history. -/
def HisV (w : World) (v : Value) (h : Hi) : Prop := ∃ A n c S sn sc P pn pc, v = .agg (hisC A n c h.most h.at_ S sn sc P pn pc h.older) ∧ Lns w A n c h.lines ∧ (A = none → c = 0) ∧ RegSl w (.slice S sn sc) h.scratch ∧ RegSl w (.slice P pn pc) h.pattern
def Hi.all (h : Hi) : List (List Int) := h.lines ++ [h.scratch, h.pattern]
def Hi.bad (h : Hi) : Prop := h.most < 1 ∨ 50 < h.most ∨ h.most < h.lines.length ∨ h.at_ < 0 ∨ (h.lines.length : Int) < h.at_
def Hi.long (h : Hi) : Prop := ∃ i, i < h.all.length ∧ 200 < (gL h.all i).length
instance (h : Hi) : Decidable h.bad := by unfold Hi.bad; infer_instance
/-- What Check says. -/
def Checks (h : Hi) (x : Int) : Prop := (h.bad ∧ x = 1) ∨ (¬ h.bad ∧ h.long ∧ x = 2) ∨ (¬ h.bad ∧ ¬ h.long ∧ x = 0)
theorem Checks.zero {h : Hi} {x : Int} (hc : Checks h x) (hx : x = 0) : ¬ h.bad ∧ ¬ h.long := by
  rcases hc with ⟨_, h1⟩ | ⟨_, _, h1⟩ | ⟨h1, h2, _⟩
  · omega
  · omega
  · exact ⟨h1, h2⟩
theorem RegSl.one {w : World} {v : Value} {l : List Int} (h : RegSl w v l) : v.oneCell' = true := by obtain ⟨A, n, c, rfl, _⟩ := h; rfl

theorem cells6 {w : World} {g t : Nat} {a b c d e f : Value} (h : Blk w g t #[a, b, c, d, e, f]) : w.cell? ⟨g, 0, none⟩ = some a ∧ w.cell? ⟨g, 1, none⟩ = some b ∧ w.cell? ⟨g, 2, none⟩ = some c ∧ w.cell? ⟨g, 3, none⟩ = some d ∧ w.cell? ⟨g, 4, none⟩ = some e ∧ w.cell? ⟨g, 5, none⟩ = some f :=
  ⟨h.cell 0, h.cell 1, h.cell 2, h.cell 3, h.cell 4, h.cell 5⟩

theorem Rd.litAt (w : World) (t : TypeId) (xs : List Value) {n g : Nat} (hg : g = w.heap.size) (hn : n = xs.length) (hm : n ≤ 1000) : Rd (w.alloc (.cells xs.toArray t)) 1 (some ⟨g, 0, none⟩) n n xs := by
  subst hg; subst hn
  refine ⟨by simp, Nat.le_refl _, by unfold maxLen; omega, fun _ => ⟨_, rfl, fun j u hu => ?_⟩⟩
  have : (⟨w.heap.size, 0, none⟩ : Addr).add j = ⟨w.heap.size, j, none⟩ := by simp [Addr.add_lit]
  rw [this, (Blk.new w t xs.toArray).cell j]
  simpa using hu
theorem LnV.two {w : World} {xs : List Value} {ls : List (List Int)} {u v : Value} {l m : List Int} (h : LnV w xs ls) (hu : RegSl w u l) (hv : RegSl w v m) : LnV w (xs ++ [u, v]) (ls ++ [l, m]) := by
  refine ⟨by simp [h.1], fun i hi => ?_⟩
  rw [List.length_append] at hi
  simp only [List.length_cons, List.length_nil] at hi
  rcases Nat.lt_or_ge i ls.length with hlt | hge
  · obtain ⟨x, h1, h2⟩ := h.2 i hlt
    refine ⟨x, by rw [List.getElem?_append_left (by rw [h.1]; exact hlt)]; exact h1, ?_⟩
    unfold gL
    rw [List.getElem?_append_left hlt]
    exact h2
  · have : i = ls.length ∨ i = ls.length + 1 := by omega
    rcases this with rfl | rfl
    · refine ⟨u, by rw [List.getElem?_append_right (by rw [h.1]; exact Nat.le_refl _), h.1, Nat.sub_self]; rfl, ?_⟩
      unfold gL
      rw [List.getElem?_append_right (Nat.le_refl _), Nat.sub_self]
      exact hu
    · refine ⟨v, by rw [List.getElem?_append_right (by rw [h.1]; omega), h.1, show ls.length + 1 - ls.length = 1 by omega]; rfl, ?_⟩
      unfold gL
      rw [List.getElem?_append_right (by omega), show ls.length + 1 - ls.length = 1 by omega]
      exact hv
theorem Low3.call {W w1 w2 : World} {g : Nat} {u v x : Value} (h : w1.cell? ⟨g, 0, none⟩ = some u ∧ w1.cell? ⟨g, 3, none⟩ = some v ∧ w1.cell? ⟨g, 4, none⟩ = some x ∧ Ext W w1) (he : Ext w1 w2) :
    w2.cell? ⟨g, 0, none⟩ = some u ∧ w2.cell? ⟨g, 3, none⟩ = some v ∧ w2.cell? ⟨g, 4, none⟩ = some x ∧ Ext W w2 := ⟨he.cell h.1, he.cell h.2.1, he.cell h.2.2.1, h.2.2.2.trans he⟩

set_option maxRecDepth 20000 in
set_option maxHeartbeats 4000000 in
theorem hcheck_ok {w : World} {v : Value} {h : Hi} (hv : HisV w v h) :
    Calls Try.prog 46 #[v] w fun e w' => ∃ x : Int, e = .returned (.int .i64 x) ∧ Checks h x ∧ Ext w w' := by
  obtain ⟨i0, hi, hz0, hz1, hz2⟩ := info_parts info_sl
  obtain ⟨ls, mo, at_, sl, pl, ol⟩ := h
  obtain ⟨A, n, c, S, sn, sc, P, pn, pc, rfl, hL, hA, hS, hP⟩ := hv
  unfold hisC
  simp only at hL hS hP ⊢
  have hn := hL.len
  have HL := Lib.hid hL
  have HS := Lib.hid hS
  have HP := Lib.hid hP
  have hnm := Nat.le_trans hL.ncap hL.nmax
  unfold maxLen at hnm
  have HN := Lib.hid hn
  clear hL hS hP hn
  by_cases hb : mo < 1 ∨ 50 < mo ∨ mo < n ∨ at_ < 0 ∨ (n : Int) < at_
  · have HB : Hid (Checks ⟨ls, mo, at_, sl, pl, ol⟩ 1) := Lib.hid (.inl ⟨by unfold Hi.bad; simp only; rw [HN.out]; exact hb, rfl⟩)
    by_cases h1 : mo < 1
    · clear hb
      go_enter Try.func46, Try.ntmps46
      go_wp2_with fail
      go_ret
      exact ⟨1, rfl, HB.out, Ext.alloc _ _⟩
    by_cases h2 : 50 < mo
    · clear hb
      go_enter Try.func46, Try.ntmps46
      go_wp2_with fail
      go_ret
      exact ⟨1, rfl, HB.out, Ext.alloc _ _⟩
    by_cases h3 : mo < n
    · clear hb
      go_enter Try.func46, Try.ntmps46
      go_wp2_with fail
      go_ret
      exact ⟨1, rfl, HB.out, Ext.alloc _ _⟩
    by_cases h4 : at_ < 0
    · clear hb
      go_enter Try.func46, Try.ntmps46
      go_wp2_with fail
      go_ret
      exact ⟨1, rfl, HB.out, Ext.alloc _ _⟩
    · have h5 : (n : Int) < at_ := by omega
      clear hb
      go_enter Try.func46, Try.ntmps46
      go_wp2_with fail
      go_ret
      exact ⟨1, rfl, HB.out, Ext.alloc _ _⟩
  · have HB : Hid (¬ (⟨ls, mo, at_, sl, pl, ol⟩ : Hi).bad) := Lib.hid (by unfold Hi.bad; simp only; rw [HN.out]; exact hb)
    have h1 : 1 ≤ mo := by omega
    have h2 : mo ≤ 50 := by omega
    have h3 : (n : Int) ≤ mo := by omega
    have h4 : 0 ≤ at_ := by omega
    have h5 : at_ ≤ n := by omega
    have h6 : n ≤ 50 := by omega
    clear hb
    obtain ⟨xs, hR, hV⟩ := HL.out
    have hx0 := Ext.alloc w (.cells #[.slice A n c, .int .i64 mo, .int .i64 at_, .slice S sn sc, .slice P pn pc, .bool ol] 55)
    obtain ⟨k0, k1, k2, k3, k4, k5⟩ := cells6 (Blk.new w 55 #[.slice A n c, .int .i64 mo, .int .i64 at_, .slice S sn sc, .slice P pn pc, .bool ol])
    have HR := Lib.hid (Rd.ext hR hx0)
    have HV := Lib.hid hV
    have HX := Lib.hid hx0
    clear hR hV hx0 HL
    go_enter Try.func46, Try.ntmps46
    go_wp2_with fail
    generalize hW : w.alloc (.cells #[.slice A n c, .int .i64 mo, .int .i64 at_, .slice S sn sc, .slice P pn pc, .bool ol] 55) = W at *
    generalize w.heap.size = g1 at *
    have hxd := Ext.drew W
    have HCL : Hid (∀ wq, Ext W wq → Calls Try.prog 53 #[.slice A n c] wq fun e w' => ∃ B d, e = .returned (.slice B n d) ∧ Own w' wq.heap.size 22 1 B n d xs ∧ (B = none → d = 0) ∧ Ext wq w') := Lib.hid (fun wq he => clone2_ok (Rd.ext HR.out he) HV.out.one hA (by omega))
    have HBS : Hid (W.heap.size ≤ W.heap.size) := Lib.hid (Nat.le_refl _)
    have hlit1 : ∀ u ∈ [Value.slice S sn sc, Value.slice P pn pc], u.oneCell' = true := by intro u hu; simp at hu; rcases hu with rfl | rfl <;> rfl
    have HL1 := Lib.hid hlit1
    clear hW hlit1 k1 k2 k5
    go_region_held3 (fun w' => w'.cell? ⟨g1, 0, none⟩ = some (.slice A n c) ∧ w'.cell? ⟨g1, 3, none⟩ = some (.slice S sn sc) ∧ w'.cell? ⟨g1, 4, none⟩ = some (.slice P pn pc) ∧ Ext W w') (first
      | assumption
      | exact ⟨k0, k3, k4, hxd⟩
      | exact Low3.call (W := W) (g := g1) (u := .slice A n c) (v := .slice S sn sc) (x := .slice P pn pc) (by assumption) (Ext.alloc _ _)) (first
      | (go_at_call 53
         refine (HCL.out _ (And.right (And.right (And.right (by assumption : _ ∧ _ ∧ _ ∧ Ext W _))))).mono ?_
         rintro e wa ⟨B, d, rfl, hoB, hB0, hea⟩
         have hoB' : Own wa W.heap.size 22 1 B n d xs := Own.lower hoB (by first | exact Nat.le_refl _ | simp)
         have hSA := Low3.call (W := W) (g := g1) (u := .slice A n c) (v := .slice S sn sc) (x := .slice P pn pc) (by assumption) hea)
      | (refine step_app rfl (.tmp 36) (.tmp 41) 53 rfl W W.heap.size 22 i0 (.slice none 0 0) 1 24 Try.underlying53 hi hz0 hz1 hz2 rfl (by decide) B n d xs rfl (by first | exact hoB' | exact Own.ext hoB' (Ext.alloc _ _)) _ 2 2 [.slice S sn sc, .slice P pn pc] rfl (by first | exact Rd.litAt _ _ [.slice S sn sc, .slice P pn pc] (by first | rfl | simp) rfl (by omega) | exact Rd.ext (Rd.litAt _ _ [.slice S sn sc, .slice P pn pc] (by first | rfl | simp) rfl (by omega)) ((Ext.drew _).trans hea)) HL1.out (by unfold maxLen; omega) (by omega) (by first | exact hSA.2.2.2 | exact Ext.to_alloc hSA.2.2.2 _) (Nat.le_refl _) (by first | exact (Ext.hsize hSA.2.2.2) | exact (Ext.hsize (Ext.to_alloc hSA.2.2.2 _))) ?_
         intro O2 d2 w3 hO2 hgr hor hx3
         have hS3 : w3.cell? ⟨g1, 0, none⟩ = some (.slice A n c) ∧ w3.cell? ⟨g1, 3, none⟩ = some (.slice S sn sc) ∧ w3.cell? ⟨g1, 4, none⟩ = some (.slice P pn pc) ∧ Ext W w3 := ⟨hx3.cell k0, hx3.cell k3, hx3.cell k4, hx3⟩))
    all_goals
      have hV3 : LnV w3 (xs ++ [.slice S sn sc, .slice P pn pc]) (ls ++ [sl, pl]) := LnV.two (HV.out.ext (HX.out.trans hx3)) (HS.out.ext (HX.out.trans hx3)) (HP.out.ext (HX.out.trans hx3))
      have HLn : Hid (Lns w3 O2 (n + 2) d2 (ls ++ [sl, pl])) := Lib.hid ⟨_, Own.rd hO2, hV3⟩
      have hnd := HLn.out.ncap
      have hdm := HLn.out.nmax
      unfold maxLen at hdm
      have HX3 := Lib.hid (HX.out.trans hx3)
      have Hlen := Lib.hid HLn.out.len
      clear hV3 hO2 hgr hor hx3 hS3 hoB hoB' hB0 hea hSA HCL HL1 HBS k0 k3 k4 hxd HR
      go_wp2_with fail
      go_loopw [44] (fun s44 wx => ∃ k : Nat, k ≤ n + 2 ∧ s44 = .int .i64 k ∧ Hid (∀ j, j < k → (gL (ls ++ [sl, pl]) j).length ≤ 200) ∧ wx = w3) (fun s44 _ => n + 2 - (intOf s44).toNat)
      case atStart => exact ⟨0, by omega, rfl, Lib.hid (fun j hj => by omega), rfl⟩
      case round =>
        obtain ⟨k, hk, rfl, Hle, rfl⟩ := hrel
        by_cases hlt : k < n + 2
        · obtain ⟨ad, v, rfl, hc, A', n', c', rfl, hI, _⟩ := HLn.out.at_ hlt
          have hl' := Lib.hid hI.len
          have hn' := Nat.le_trans hI.ncap hI.nmax
          unfold maxLen at hn'
          clear hI
          by_cases hb : 200 < n'
          · have HC : Hid (Checks ⟨ls, mo, at_, sl, pl, ol⟩ 2) := Lib.hid (.inr (.inl ⟨HB.out, ⟨k, by rw [show (Hi.all ⟨ls, mo, at_, sl, pl, ol⟩) = ls ++ [sl, pl] from rfl, Hlen.out]; exact hlt, by rw [show (Hi.all ⟨ls, mo, at_, sl, pl, ol⟩) = ls ++ [sl, pl] from rfl, hl'.out]; exact hb⟩, rfl⟩))
            go_wp2_with fail
            go_ret
            exact ⟨2, rfl, HC.out, HX3.out⟩
          · go_wp2_with fail
            go_roundw
            case rel => exact ⟨k + 1, by omega, by go_num, Lib.hid (fun j hj => by
              by_cases hjk : j = k
              · rw [hjk, hl'.out]; omega
              · exact Hle.out j (by omega)), (by first | rfl | trivial)⟩
            case measure => simp [intOf]; omega
        · obtain rfl : k = n + 2 := by omega
          have HC : Hid (Checks ⟨ls, mo, at_, sl, pl, ol⟩ 0) := Lib.hid (.inr (.inr ⟨HB.out, fun ⟨i, h1, h2⟩ => by
            rw [show (Hi.all ⟨ls, mo, at_, sl, pl, ol⟩) = ls ++ [sl, pl] from rfl] at h1 h2
            rw [Hlen.out] at h1
            have := Hle.out i h1
            omega, rfl⟩))
          go_wp2_with fail
          go_ret
          exact ⟨0, rfl, HC.out, HX3.out⟩
end Go.Proofs.Ytbhbakejpgndmaa
