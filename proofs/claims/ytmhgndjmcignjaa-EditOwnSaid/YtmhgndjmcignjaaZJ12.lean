/-
  The walks of fairkeep's ample, stays, spoil at numbers.
-/
import Derived.Test.YtmhgndjmcignjaaZJ1

namespace Go.Proofs.Ytmhgndjmcignjaa
open Go.RowKit
set_option linter.unusedVariables false
set_option linter.unusedSimpArgs false

/-- The value is a slice of these numbers, behind which two more lie that are x; a row of the call's own. -/
def Amp (w : World) (b : Nat) (v : Value) (l : List Int) (x : Int) : Prop := ∃ A n c, v = .slice (some A) n c ∧ OwnI w b (some A) (n + 2) c (l ++ [x, x]) ∧ l.length = n
section
variable {w w' : World} {b : Nat} {v : Value} {l : List Int} {x : Int}
theorem Amp.ext (h : Amp w b v l x) (he : Ext w w') : Amp w' b v l x := by
  obtain ⟨A, n, c, rfl, h1, h2⟩ := h
  exact ⟨A, n, c, rfl, Own.ext h1 he, h2⟩
theorem Amp.lower {b' : Nat} (h : Amp w b v l x) (hb : b' ≤ b) : Amp w b' v l x := by
  obtain ⟨A, n, c, rfl, h1, h2⟩ := h
  exact ⟨A, n, c, rfl, Own.lower h1 hb, h2⟩
theorem Amp.setCell (h : Amp w b v l x) {p : Addr} (hp : p.block < b) (u : Value) : Amp (w.setCell p u) b v l x := by
  obtain ⟨A, n, c, rfl, h1, h2⟩ := h
  exact ⟨A, n, c, rfl, Own.setCell h1 hp u, h2⟩
theorem Amp.ints (h : Amp w b v l x) : ∃ A n c, v = .slice (some A) n c ∧ Ints w (some A) n c l ∧ n ≤ c := by
  obtain ⟨A, n, c, rfl, h1, h2⟩ := h
  have h3 := h1.ints.front (k := n) (by omega)
  rw [List.take_append_of_le_length (by omega), List.take_of_length_le (by omega)] at h3
  exact ⟨A, n, c, rfl, h3, by have := h1.ints.ncap; omega⟩
/-- The row itself, without what lies behind. -/
theorem Amp.own (h : Amp w b v l x) : ∃ A n c, v = .slice (some A) n c ∧ OwnI w b (some A) n c l := by
  obtain ⟨A, n, c, rfl, h1, h2⟩ := h
  have h3 := Own.pop (k := n) h1 (by omega) (by omega)
  rw [← List.map_take, List.take_append_of_le_length (by omega), List.take_of_length_le (by omega)] at h3
  exact ⟨A, n, c, rfl, h3⟩
theorem Amp.blk (h : Amp w b v l x) : ∀ g, v.ownBlock = some g → b ≤ g ∧ g < w.heap.size := by
  obtain ⟨A, n, c, rfl, h1, _⟩ := h
  exact fun g hg => Own.blk h1 g hg
end

theorem grownBy_set (w : World) (a : Addr) (u : Value) : w.grownBy (w.setCell a u) (some a.block) :=
  ⟨rfl, rfl, rfl, by simp [World.setCell], fun k hk hne => by
    have : a.block ≠ k := fun e => hne (by rw [e])
    unfold World.setCell
    rw [Array.getElem?_modify, if_neg this]⟩
theorem grownBy_trans {a b c : World} {row : Option Nat} (h : a.grownBy b row) (k : b.grownBy c row) : a.grownBy c row :=
  ⟨k.os.trans h.os, k.tape.trans h.tape, k.output.trans h.output, Nat.le_trans h.size k.size, fun i hi hne => (k.block i (Nat.lt_of_lt_of_le hi h.size) hne).trans (h.block i hi hne)⟩
set_option maxRecDepth 20000 in
set_option maxHeartbeats 4000000 in
theorem ample_ok {A : Option Addr} {n c : Nat} {l : List Int} {x : Int} {w : World} (hl : Ints w A n c l) (hn : n * 8 ≤ 140737488351232) :
    Calls Try.prog 13 #[.slice A n c, .int .i64 x] w fun e w' => ∃ v, e = .returned v ∧ Amp w' w.heap.size v l x ∧ Ext w w' := by
  obtain ⟨i0, hi, hz0, hz1, hz2⟩ := info_parts info_int
  have HI := Lib.hid hl
  have HL := Lib.hid hl.len
  have hn2 : n ≤ 17592186043904 := by omega
  clear hl
  go_enter Try.func13, Try.ntmps13
  go_wp2_with (refine wpList_make_own _ rfl _ _ 22 rfl w.heap.size 3 i0 (.int .i64 0) 1 Try.underlying22 hi hz0 hz1 .i64 .i64 ((n : Int) + 3) (n + 3) rfl rfl (by omega) (by rw [hz2]; omega) (by unfold maxLen; omega) (Nat.le_refl _) ?_)
  intro w1 hown1 hgr1
  have he1 : Ext w w1 := Ext.grown (Ext.refl w) (v := .slice none 0 0) hgr1 (OwnI.nil w w.heap.size) (Nat.le_refl _)
  have hI1 := Lib.hid (HI.out.ext he1)
  have hle1 : w.heap.size ≤ w1.heap.size := he1.hsize
  go_wp2_with (at_builtin; refine wpList_app rfl (.tmp 9) (.tmp 10) 22 rfl w w.heap.size 3 i0 (.int .i64 0) 1 8 Try.underlying22 hi hz0 hz1 hz2 rfl (by decide) (some ⟨w.heap.size, 0, none⟩) 0 (n + 3) [] rfl hown1 A n c (l.map (Value.int .i64)) rfl hI1.out hI1.out.one ?_ ?_ he1 (Nat.le_refl _) hle1 ?_)
  · unfold maxLen; omega
  · omega
  · intro A2 c2 w2 k1 k2 k3 k4
    have hl2 := Lib.hid (show Rd (w2.alloc (.cells #[.int .i64 x, .int .i64 x] 3)) 1 (some ⟨w2.heap.size, 0, none⟩) 2 2 [.int .i64 x, .int .i64 x] by
      refine ⟨rfl, Nat.le_refl _, by unfold maxLen; omega, fun _ => ⟨_, rfl, fun j u hj => ?_⟩⟩
      have e1 : (⟨w2.heap.size, 0, none⟩ : Addr).add j = ⟨w2.heap.size, j, none⟩ := by simp [Addr.add_lit]
      rw [e1, (Blk.new w2 3 #[.int .i64 x, .int .i64 x]).cell j]
      simpa using hj)
    have K1 := Lib.hid (Own.ext k1 (Ext.alloc w2 (.cells #[.int .i64 x, .int .i64 x] 3)))
    have k5 := k4.to_alloc (.cells #[.int .i64 x, .int .i64 x] 3)
    have hle2 := k5.hsize
    clear k1 k2 k3 k4 hown1 hgr1 he1 hI1
    go_wp2_with (at_builtin; refine wpList_app rfl (.tmp 11) (.tmp 14) 22 rfl w w.heap.size 3 i0 (.int .i64 0) 1 8 Try.underlying22 hi hz0 hz1 hz2 rfl (by decide) A2 n c2 _ rfl K1.out (some ⟨w2.heap.size, 0, none⟩) 2 2 [.int .i64 x, .int .i64 x] rfl hl2.out ?_ ?_ ?_ k5 (Nat.le_refl _) hle2 ?_)
    · intro u hu
      simp at hu
      rw [hu]; rfl
    · unfold maxLen; omega
    · omega
    · intro A3 c3 w3 k1 k2 k3 k4
      have K3 : OwnI w3 w.heap.size A3 (n + 2) c3 (l ++ [x, x]) := by simpa [OwnI] using k1
      obtain ⟨ad, rfl⟩ : ∃ ad, A3 = some ad := by
        obtain ⟨ad, e, _⟩ := K3.ints.at_ (k := 0) (by omega)
        exact ⟨ad, e⟩
      have hc3 := K3.ints.ncap
      have hm3 := K3.ints.nmax
      unfold maxLen at hm3
      have h4 := k4
      have HK := Lib.hid K3
      clear k1 k2 k3 k4 K1 k5 K3 hl2
      go_wp2_with fail
      go_ret
      exact ⟨_, rfl, ⟨ad, n, c3, rfl, HK.out, HL.out⟩, h4⟩

set_option maxRecDepth 20000 in
set_option maxHeartbeats 4000000 in
theorem stays_ok {A : Addr} {B : Option Addr} {n c m d : Nat} {l : List Int} {x : Int} {w : World} (hl : Ints w (some A) (n + 2) c (l ++ [x, x])) (hln : l.length = n) (hb : Ints w B m d l) :
    Calls Try.prog 15 #[.slice (some A) n c, .slice B m d, .int .i64 x] w fun e w' => e = .returned (.bool true) ∧ ∃ k, w' = w.drewN k := by
  have hnc := hl.ncap
  have hcm := hl.nmax
  unfold maxLen at hcm
  have hf := hl.front (k := n) (by omega)
  rw [List.take_append_of_le_length (by omega), List.take_of_length_le (by omega)] at hf
  have HQ := Lib.hid (equal_ok hf hb)
  rw [eqB_true.2 rfl] at HQ
  obtain ⟨ad, e, hc⟩ := hl.at_ (k := 0) (by omega)
  injection e with e
  subst e
  have g1 : gI (l ++ [x, x]) n = x := by unfold gI; rw [List.getElem?_append_right (by omega)]; simp [hln]
  have g2 : gI (l ++ [x, x]) (n + 1) = x := by unfold gI; rw [List.getElem?_append_right (by omega)]; simp [hln]
  have c1 := hc n (by omega)
  have c2 := hc (n + 1) (by omega)
  rw [g1] at c1
  rw [g2] at c2
  rw [show A.add (n + 1) = ⟨A.block, A.off + (n + 1), none⟩ by unfold Addr.add; simp] at c2
  clear hl hb hf g1 g2 hc hln
  go_enter Try.func15, Try.ntmps15
  go_wp2_with fail
  refine HQ.out.mono ?_
  rintro e w' ⟨rfl, k, rfl⟩
  clear HQ
  go_wp2_with fail
  go_ret
  exact ⟨rfl, k, rfl⟩

set_option maxRecDepth 20000 in
set_option maxHeartbeats 4000000 in
/-- spoil writes to the row alone. -/
theorem spoil_ok {A : Option Addr} {n c b : Nat} {l : List Int} {x : Int} {w : World} (h : OwnI w b A n c l) :
    Calls Try.prog 16 #[.slice A n c, .int .i64 x] w fun e w' => (∃ v, e = .returned v) ∧ w.grownBy w' (Value.slice A n c).ownBlock := by
  have hcm := h.ints.nmax
  have hnc := h.ints.ncap
  unfold maxLen at hcm
  rcases h.2 with ⟨hv, rfl⟩ | ⟨g, cap, cur, hv, hb, hg, hn, hcap, hcur, htake⟩
  · injection hv with hA _ hc
    subst hA; subst hc
    clear h hnc
    go_enter Try.func16, Try.ntmps16
    go_wp2_with fail
    go_loopw [11] (fun s wx => s = .int .i64 0 ∧ wx = w) (fun _ _ => 0)
    case atStart => exact ⟨rfl, rfl⟩
    case round =>
      obtain ⟨rfl, rfl⟩ := hrel
      go_wp2_with fail
      go_end0
      exact ⟨⟨_, rfl⟩, World.grownBy.refl _ _⟩
  · injection hv with hA _ hc
    subst hA; subst hc
    have hcl : cur.size = c := by omega
    clear h htake hn hcap hcur
    have hb0 : Hid (Blk w g 3 cur) := Lib.hid hg
    have hgr : Hid (w.grownBy w (some g)) := Lib.hid (World.grownBy.refl _ _)
    have hcz := Lib.hid hcl
    clear hg hcl
    go_enter Try.func16, Try.ntmps16
    go_wp2_with fail
    go_loopw [11] (fun s wx => ∃ (k : Nat) (cs : Array Value), k ≤ c ∧ s = .int .i64 k ∧ Hid (Blk wx g 3 cs) ∧ Hid (cs.size = c) ∧ Hid (w.grownBy wx (some g))) (fun s _ => c - (intOf s).toNat)
    case atStart => exact ⟨0, cur, by omega, rfl, hb0, hcz, hgr⟩
    case round =>
      clear hb0 hcz hgr
      obtain ⟨k, cs, hk, rfl, Hb, Hs, Hg⟩ := hrel
      by_cases hlt : k < c
      · have hcell : wr.cell? ⟨g, k, none⟩ = some (cs[k]'(by rw [Hs.out]; exact hlt)) := by rw [Hb.out.cell k, Array.getElem?_eq_getElem]
        have hfr := Hb.out.frozen k
        go_wp2_with fail
        go_roundw
        case rel =>
          refine ⟨k + 1, cs.setIfInBounds k (.int .i64 x), by omega, by go_num, Lib.hid (Hb.out.set_ k _), Lib.hid (by simpa using Hs.out), Lib.hid ?_⟩
          exact grownBy_trans Hg.out (grownBy_set wr ⟨g, k, none⟩ (.int .i64 x))
        case measure => simp [intOf]; omega
      · obtain rfl : k = c := by omega
        have hend := Hg.out
        clear Hb Hs Hg
        go_wp2_with fail
        go_end0
        exact ⟨⟨_, rfl⟩, hend⟩
end Go.Proofs.Ytmhgndjmcignjaa

namespace Go.Proofs.Ytmhgndjmcignjaa
open Go.RowKit
set_option linter.unusedVariables false
set_option linter.unusedSimpArgs false

/-! spoil -/
/-- A row of numbers, whatever it holds. -/
def RowB (w : World) (v : Value) (a b : Nat) : Prop := ∃ g n c cur, v = .slice (some ⟨g, 0, none⟩) n c ∧ Blk w g 3 cur ∧ cur.size = c ∧ c ≤ maxLen ∧ n ≤ c ∧ (a ≤ g ∧ g < b)
theorem RowB.ext {w w' : World} {v : Value} {a b : Nat} (h : RowB w v a b) (he : Ext w w') : RowB w' v a b := let ⟨g, n, c, cur, h1, h2, h3⟩ := h; ⟨g, n, c, cur, h1, h2.ext he, h3⟩
theorem RowB.wide {w : World} {v : Value} {a a' b b' : Nat} (h : RowB w v a b) (ha : a' ≤ a) (hb : b ≤ b') : RowB w v a' b' := let ⟨g, n, c, cur, h1, h2, h3, h4, h5, h6, h7⟩ := h; ⟨g, n, c, cur, h1, h2, h3, h4, h5, by omega, by omega⟩
theorem Amp.rowB {w : World} {b : Nat} {v : Value} {l : List Int} {x : Int} (h : Amp w b v l x) : RowB w v b w.heap.size := by
  obtain ⟨A, n, c, rfl, h1, h2⟩ := h
  have hh : Own w b 3 1 (some A) (n + 2) c ((l ++ [x, x]).map (Value.int .i64)) := h1
  obtain ⟨_, h3⟩ := hh
  rcases h3 with ⟨h3, h4⟩ | ⟨g, cap, cur, hv, hb, hg, hn, hcap, hcur, ht⟩
  · cases h3
  · cases hv
    exact ⟨g, n, c, cur, rfl, hg, by omega, hcap, by omega, hb, Blk.lt hg⟩
/-- From w to w' blocks below b have been written. -/
def GrowLow (b : Nat) (w w' : World) : Prop := ∀ P : World → Prop, (∀ a c g, P a → a.grownBy c (some g) → g < b → P c) → P w → P w'
theorem GrowLow.refl (b : Nat) (w : World) : GrowLow b w w := fun _ _ h => h
theorem GrowLow.step {b : Nat} {w a c : World} {g : Nat} (h : GrowLow b w a) (hg : a.grownBy c (some g)) (hb : g < b) : GrowLow b w c := fun P h1 h2 => h1 a c g (h P h1 h2) hg hb
theorem GrowLow.ownI {b bb : Nat} {w w' : World} (h : GrowLow b w w') {A : Option Addr} {n c : Nat} {l : List Int} (ho : OwnI w bb A n c l) (hb : b ≤ bb) : OwnI w' bb A n c l :=
  h (fun x => OwnI x bb A n c l) (fun a c' g h1 h2 h3 => Own.kept h1 h2 (by
    cases hq : (Value.slice A n c).ownBlock with
    | none => exact .inl rfl
    | some q => exact .inr (fun e => by injection e with e; have := (Own.blk h1 q hq).1; omega))) ho
theorem GrowLow.ext {b : Nat} {w0 w w' : World} (h : GrowLow b w w') (hx : Ext w0 w) (hs : ∀ a c g, a.grownBy c (some g) → g < b → Ext w0 a → Ext w0 c) : Ext w0 w' := h (Ext w0) (fun a c g h1 h2 h3 => hs a c g h2 h3 h1) hx

set_option maxRecDepth 20000 in
set_option maxHeartbeats 4000000 in
theorem spoil_row {v : Value} {a b : Nat} {x : Int} {w : World} (h : RowB w v a b) :
    Calls Try.prog 16 #[v, .int .i64 x] w fun e w' => (∃ u, e = .returned u) ∧ ∃ g, (a ≤ g ∧ g < b) ∧ w.grownBy w' (some g) ∧ (∃ cs, Blk w g 3 cs) ∧ ∀ v2 a2 b2, RowB w v2 a2 b2 → RowB w' v2 a2 b2 := by
  obtain ⟨g, n, c, cur, rfl, hg, hcl, hcm, hnc, hgb⟩ := h
  unfold maxLen at hcm
  have hb0 : Hid (Blk w g 3 cur) := Lib.hid hg
  have hgr : Hid (w.grownBy w (some g)) := Lib.hid (World.grownBy.refl _ _)
  have hcz := Lib.hid hcl
  have hbw : Hid (∃ cs, Blk w g 3 cs) := Lib.hid ⟨_, hg⟩
  clear hg hcl
  go_enter Try.func16, Try.ntmps16
  go_wp2_with fail
  go_loopw [11] (fun s wx => ∃ (k : Nat) (cs : Array Value), k ≤ c ∧ s = .int .i64 k ∧ Hid (Blk wx g 3 cs) ∧ Hid (cs.size = c) ∧ Hid (w.grownBy wx (some g))) (fun s _ => c - (intOf s).toNat)
  case atStart => exact ⟨0, cur, by omega, rfl, hb0, hcz, hgr⟩
  case round =>
    have HC0 : Hid (∀ (c2 : Nat) (cur2 : Array Value), Blk w g 3 cur2 → cur2.size = c2 → c2 = c) := Lib.hid fun c2 cur2 h1 h2 => by
      have h3 : Blk w g 3 cur := hb0.out
      have h4 := hcz.out
      unfold Blk at h1 h3
      rw [h1] at h3
      injection h3 with h3
      injection h3 with h3
      rw [h3] at h2
      omega
    clear hb0 hcz hgr
    obtain ⟨k, cs, hk, rfl, Hb, Hs, Hg⟩ := hrel
    by_cases hlt : k < c
    · have hcell : wr.cell? ⟨g, k, none⟩ = some (cs[k]'(by rw [Hs.out]; exact hlt)) := by rw [Hb.out.cell k, Array.getElem?_eq_getElem]
      have hfr := Hb.out.frozen k
      go_wp2_with fail
      go_roundw
      case rel =>
        refine ⟨k + 1, cs.setIfInBounds k (.int .i64 x), by omega, by go_num, Lib.hid (Hb.out.set_ k _), Lib.hid (by simpa using Hs.out), Lib.hid ?_⟩
        exact grownBy_trans Hg.out (grownBy_set wr ⟨g, k, none⟩ (.int .i64 x))
      case measure => simp [intOf]; omega
    · obtain rfl : k = c := by omega
      have hend := Hg.out
      have HFIN : Hid (∀ v2 a2 b2, RowB w v2 a2 b2 → RowB wr v2 a2 b2) := Lib.hid (by
        rintro v2 a2 b2 ⟨g2, n2, c2, cur2, e1, e2, e3, e4, e5, e6⟩
        by_cases hgg : g2 = g
        · subst hgg
          exact ⟨g2, n2, c2, cs, e1, Hb.out, by rw [Hs.out]; exact (HC0.out c2 cur2 e2 e3).symm, e4, e5, e6⟩
        · exact ⟨g2, n2, c2, cur2, e1, e2.grown hend (fun e => hgg (by injection e)), e3, e4, e5, e6⟩)
      clear Hb Hs Hg
      go_wp2_with fail
      go_end0
      exact ⟨⟨_, rfl⟩, g, hgb, hend, hbw.out, HFIN.out⟩

theorem ext_spoilt {w0 a c : World} {g : Nat} (h : Ext w0 a) (hg : a.grownBy c (some g)) (hb : w0.heap.size ≤ g) : Ext w0 c := Below.grown h hg h.size (fun k hk => by injection hk with hk; omega)
end Go.Proofs.Ytmhgndjmcignjaa
