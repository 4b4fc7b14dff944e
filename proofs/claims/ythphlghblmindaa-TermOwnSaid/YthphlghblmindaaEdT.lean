/-
  fairkeep.typed in Insert: characters; backspaces.
-/
import Derived.Test.YthphlghblmindaaEdL
namespace Go.Proofs.Ythphlghblmindaa
open Go.RowKit
set_option linter.unusedVariables false
set_option linter.unusedSimpArgs false

theorem Ints.setFar {w : World} {A : Option Addr} {n c : Nat} {l : List Int} (h : Ints w A n c l) {p : Addr} (hp : 0 < n → ∀ ad, A = some ad → p.block ≠ ad.block) (u : Value) : Ints (w.setCell p u) A n c l := by
  obtain ⟨h1, h2, h3, h4⟩ := h
  refine ⟨h1, h2, h3, fun hn => ?_⟩
  obtain ⟨ad, e, hc⟩ := h4 hn
  exact ⟨ad, e, fun j v hv => by
    rw [World.cell?_setCell_far w p (ad.add j) u (by rw [block_of_add]; exact hp (by omega) ad e)]
    exact hc j v hv⟩
theorem own_capE {w : World} {base n c : Nat} {A : Option Addr} {l : List Int} (h : OwnI w base A n c l) : A = none → c = 0 := by
  have hh : Own w base 3 1 A n c (l.map (Value.int .i64)) := h
  obtain ⟨h1, h2⟩ := hh
  rcases h2 with h2 | ⟨g, cap, cur, hv, hb, hg, r⟩
  · have := h2.1
    cases this
    intro _; rfl
  · cases hv
    intro hh; cases hh
theorem own_far {w : World} {base n c p : Nat} {A : Option Addr} {l : List Int} (h : OwnI w base A n c l) (hp : p < base) : ∀ ad, A = some ad → p ≠ ad.block := by
  have hh : Own w base 3 1 A n c (l.map (Value.int .i64)) := h
  obtain ⟨h1, h2⟩ := hh
  rcases h2 with h2 | ⟨g, cap, cur, hv, hb, hg, r⟩
  · have := h2.1
    cases this
    intro ad e; cases e
  · cases hv
    intro ad e
    injection e with e
    subst e
    simp only
    omega

/-- A line in the block p: its text reads as these numbers, and lies in no block that is p. -/
def LineAt (w : World) (p : Nat) (A : Option Addr) (n c : Nat) (a : Nat) (l : List Int) : Prop :=
  Blk w p 62 #[.slice A n c, .int .i64 (a : Int)] ∧ Ints w A n c l ∧ (A = none → c = 0) ∧ (0 < n → ∀ ad, A = some ad → p ≠ ad.block ∧ p + 1 ≠ ad.block)
theorem LineAt.ext {w w' : World} {p : Nat} {A : Option Addr} {n c a : Nat} {l : List Int} (h : LineAt w p A n c a l) (he : Ext w w') : LineAt w' p A n c a l := ⟨h.1.ext he, h.2.1.ext he, h.2.2⟩
/-- Another line is stored. -/
theorem LineAt.put {w : World} {p : Nat} {A : Option Addr} {n c a : Nat} {l : List Int} (h : LineAt w p A n c a l) {B : Option Addr} {m d b base : Nat} {l' : List Int} (ho : OwnI w base B m d l') (hp : p + 1 < base) : LineAt (st2 w p (.slice B m d) (.int .i64 (b : Int))) p B m d b l' :=
  ⟨st2_blk h.1 _ _, OwnI.ints (st2_own ho (by omega) _ _), own_capE ho, fun _ ad e => ⟨own_far ho (by omega) ad e, own_far ho hp ad e⟩⟩

/-- What typed answers. -/
def TypedIs (w : World) (m : Nat) (l : List Int) (a : Nat) (e : Ending) (w' : World) : Prop :=
  Ext w w' ∧ ∃ B n d, e = .returned (.tuple #[.agg #[.slice B n d, .int .i64 (a : Int)], .bool true]) ∧ Ints w' B n d l ∧ (B = none → d = 0) ∧ (0 < m → OwnI w' w.heap.size B n d l)
theorem st2_own_ne {w : World} {base g n c : Nat} {A : Option Addr} {l : List Int} (h : OwnI w base A n c l) (hne : ∀ k, (Value.slice A n c).ownBlock = some k → k ≠ g) (a b : Value) : OwnI (st2 w g a b) base A n c l := by
  have gr : ∀ (w : World) (i : Nat) (u : Value), w.grownBy (w.setCell ⟨g, i, none⟩ u) (some g) := fun w i u => ⟨rfl, rfl, rfl, by simp, fun k hk hn => by
    unfold World.setCell
    split <;> (simp only [Array.getElem?_modify]; rw [if_neg (fun e => hn (by rw [e]))])⟩
  have hn : (Value.slice A n c).ownBlock = none ∨ (Value.slice A n c).ownBlock ≠ some g := by
    cases hq : (Value.slice A n c).ownBlock with
    | none => exact .inl rfl
    | some k => exact .inr (fun e => hne k hq (by injection e))
  exact Own.kept (Own.kept h (gr _ 0 a) hn) (gr _ 1 b) hn
def TypedNo (w : World) (e : Ending) (w' : World) : Prop := Ext w w' ∧ e = .returned (.tuple #[.agg #[.slice none 0 0, .int .i64 0], .bool false])

theorem st2_farE {w : World} {p q t : Nat} {cs : Array Value} (h : Blk w q t cs) (hne : p ≠ q) (a b : Value) : Blk (st2 w p a b) q t cs := by
  unfold st2
  have key : ∀ {w : World} (i : Nat) (u : Value), Blk w q t cs → Blk (w.setCell ⟨p, i, none⟩ u) q t cs := fun i u hh => by
    unfold Blk World.setCell at *
    simp only [Array.getElem?_modify]
    rw [if_neg hne]
    exact hh
  exact key 1 b (key 0 a h)

set_option maxRecDepth 20000 in
set_option maxHeartbeats 8000000 in
/-- Each key makes of one state the next one. -/
theorem typed_run {w : World} {A K : Option Addr} {n c m d : Nat} {l ks : List Int} {a : Nat} (S : Nat → List Int) (P : Nat → Nat) (hl : Ints w A n c l) (hA : A = none → c = 0) (hk : Ints w K m d ks)
    (h0 : S 0 = l ∧ P 0 = a)
    (hstep : ∀ (k : Nat) (wq : World) (B : Option Addr) (q r : Nat), k < m → Ints wq B q r (S k) → (B = none → r = 0) → Calls Try.prog 58 #[.agg #[.slice B q r, .int .i64 (P k : Int)], .int .i64 1, .int .i64 (gI ks k)] wq (KeyIs (S (k + 1)) (P (k + 1)) wq)) :
    Calls Try.prog 33 #[.agg #[.slice A n c, .int .i64 (a : Int)], .slice K m d] w (TypedIs w m (S m) (P m)) := by
  have hmd := hk.ncap
  have hdm := hk.nmax
  unfold maxLen at hdm
  have b2 : LineAt ((w.alloc (.cells #[.slice A n c, .int .i64 (a : Int)] 62)).alloc (.cells #[.slice none 0 0, .int .i64 0] 62)) w.heap.size A n c a l :=
    ⟨(Blk.new w _ _).ext (Ext.alloc _ _), hl.ext ((Ext.alloc _ _).to_alloc _), hA, fun hn ad e => by
      obtain ⟨ad', e', hc⟩ := hl.at_ hn
      rw [e] at e'
      injection e' with e'
      subst e'
      have := World.block_lt_of_cell? w _ (hc 0 hn)
      rw [block_of_add] at this
      exact ⟨by omega, by omega⟩⟩
  have b4 : Blk ((w.alloc (.cells #[.slice A n c, .int .i64 (a : Int)] 62)).alloc (.cells #[.slice none 0 0, .int .i64 0] 62)) (w.heap.size + 1) 62 #[.slice none 0 0, .int .i64 0] := by
    have := Blk.new (w.alloc (.cells #[.slice A n c, .int .i64 (a : Int)] 62)) 62 #[.slice none 0 0, .int .i64 0]
    rwa [World.size_alloc] at this
  have hx0 : Ext w ((w.alloc (.cells #[.slice A n c, .int .i64 (a : Int)] 62)).alloc (.cells #[.slice none 0 0, .int .i64 0] 62)) := (Ext.alloc _ _).to_alloc _
  have hall := And.intro (Lib.hid b2) (And.intro (Lib.hid b4) (Lib.hid hx0))
  have HST := Lib.hid hstep
  have H0 := Lib.hid h0
  clear b2 b4 hx0 hl hA hstep h0
  go_enter Try.func33, Try.ntmps33
  go_upto_region 1 with fail
  revert hall
  generalize (w.alloc (.cells #[.slice A n c, .int .i64 (a : Int)] 62)).alloc (.cells #[.slice none 0 0, .int .i64 0] 62) = W
  obtain ⟨p2, hp2⟩ : ∃ p2, w.heap.size = p2 := ⟨_, rfl⟩
  rw [hp2]
  have hpp : w.heap.size ≤ p2 := by omega
  clear hp2
  rintro ⟨b2, b4, hx0⟩
  go_wp2_with fail
  go_loopw [11] (fun s wr => ∃ (k q r : Nat) (B : Option Addr), k ≤ m ∧ s = .int .i64 k ∧ Hid (LineAt wr p2 B q r (P k) (S k)) ∧ Hid (Blk wr (p2 + 1) 62 #[.slice none 0 0, .int .i64 0]) ∧ Hid (Ext w wr) ∧ Hid (0 < k → OwnI wr (p2 + 2) B q r (S k))) (fun s _ => m - (intOf s).toNat)
  case atStart => exact ⟨0, n, c, A, by omega, rfl, Lib.hid (by rw [H0.out.1, H0.out.2]; exact b2.out), b4, hx0, Lib.hid (fun h => absurd h (by omega))⟩
  case round =>
    clear b2 b4 hx0
    obtain ⟨k, q, r, B, hkm, rfl, HL, HZ, HX, HOW⟩ := hrel
    by_cases hlt : k < m
    · obtain ⟨ad, rfl, hc⟩ := (hk.ext HX.out).at_ hlt
      have c0 := hc k hlt
      obtain ⟨k0, k1⟩ := cells2 HL.out.1
      have HK := Lib.hid (HST.out k wr B q r hlt HL.out.2.1 HL.out.2.2.1)
      clear hc
      go_wp2_with fail
      refine HK.out.mono ?_
      rintro e w1 ⟨he1, B1, q1, r1, rfl, ho1⟩
      have hpB : p2 + 1 < wr.heap.size := HZ.out.lt
      have HL1 := Lib.hid (LineAt.put (b := P (k + 1)) (HL.out.ext he1) ho1 hpB)
      have HZ1 := Lib.hid (st2_farE (HZ.out.ext he1) (show p2 ≠ p2 + 1 by omega) (.slice B1 q1 r1) (.int .i64 (P (k + 1) : Int)))
      have HX1 := Lib.hid (st2_ext (HX.out.trans he1) hpp (.slice B1 q1 r1) (.int .i64 (P (k + 1) : Int)))
      obtain ⟨d0, d1⟩ := cells2 (HL.out.1.ext he1)
      obtain ⟨f0, f1⟩ := frozen2 (HL.out.1.ext he1)
      have HOW1 : Hid (0 < k + 1 → OwnI (st2 w1 p2 (.slice B1 q1 r1) (.int .i64 (P (k + 1) : Int))) (p2 + 2) B1 q1 r1 (S (k + 1))) := Lib.hid (fun _ => Own.lower (st2_own ho1 (by omega) _ _) (by omega))
      unfold st2 at HL1 HZ1 HX1 HOW1
      clear HOW
      clear HK HL HZ HX k0 k1 he1 ho1
      go_wp2_with fail
      go_roundw
      case rel => exact ⟨k + 1, q1, r1, B1, by omega, by go_num, HL1, HZ1, HX1, HOW1⟩
      case measure => simp [intOf]; omega
    · obtain rfl : k = m := by omega
      obtain ⟨k0, k1⟩ := cells2 HL.out.1
      obtain ⟨z0, z1⟩ := cells2 HZ.out
      obtain ⟨y0, y1⟩ := frozen2 HZ.out
      have hfin := Lib.hid (st2_blk HZ.out (.slice B q r) (.int .i64 (P k : Int)))
      have hX := Lib.hid (st2_ext HX.out (show w.heap.size ≤ p2 + 1 by omega) (.slice B q r) (.int .i64 (P k : Int)))
      have hI : Hid (Ints (st2 wr (p2 + 1) (.slice B q r) (.int .i64 (P k : Int))) B q r (S k)) := Lib.hid (by
        have h1 := HL.out.2.2.2
        exact (HL.out.2.1.setFar (p := ⟨p2 + 1, 0, none⟩) (fun hn ad e => (h1 hn ad e).2) _).setFar (p := ⟨p2 + 1, 1, none⟩) (fun hn ad e => (h1 hn ad e).2) _)
      have HN := Lib.hid HL.out.2.2.1
      have HO : Hid (0 < k → OwnI (st2 wr (p2 + 1) (.slice B q r) (.int .i64 (P k : Int))) w.heap.size B q r (S k)) := Lib.hid (fun h => Own.lower (st2_own (HOW.out h) (by omega) _ _) (by omega))
      unfold st2 at hfin hX hI HO
      clear HL HZ HX HOW
      go_wp2_with fail
      refine bodyPost_ret (v := .tuple #[.agg #[.slice B q r, .int .i64 (P k : Int)], .bool true]) ?_ rfl ⟨hX.out, B, q, r, rfl, hI.out, HN.out, HO.out⟩
      exact results_row_t1 rfl _ _ (p2 + 1) 62 _ _ _ _ rfl rfl hfin.out Try.underlying62 rfl (line_size rfl)

set_option maxRecDepth 20000 in
set_option maxHeartbeats 8000000 in
/-- A key that does not go. -/
theorem typed_stop {w : World} {A K : Option Addr} {n c m d j : Nat} {l ks : List Int} {a : Nat} (S : Nat → List Int) (P : Nat → Nat) (hl : Ints w A n c l) (hA : A = none → c = 0) (hk : Ints w K m d ks)
    (h0 : S 0 = l ∧ P 0 = a) (hj : j < m)
    (hstep : ∀ (k : Nat) (wq : World) (B : Option Addr) (q r : Nat), k < j → Ints wq B q r (S k) → (B = none → r = 0) → Calls Try.prog 58 #[.agg #[.slice B q r, .int .i64 (P k : Int)], .int .i64 1, .int .i64 (gI ks k)] wq (KeyIs (S (k + 1)) (P (k + 1)) wq))
    (hstop : ∀ (wq : World) (B : Option Addr) (q r : Nat), Ints wq B q r (S j) → Calls Try.prog 58 #[.agg #[.slice B q r, .int .i64 (P j : Int)], .int .i64 1, .int .i64 (gI ks j)] wq (KeyNo wq)) :
    Calls Try.prog 33 #[.agg #[.slice A n c, .int .i64 (a : Int)], .slice K m d] w (TypedNo w) := by
  have hmd := hk.ncap
  have hdm := hk.nmax
  unfold maxLen at hdm
  have b2 : LineAt ((w.alloc (.cells #[.slice A n c, .int .i64 (a : Int)] 62)).alloc (.cells #[.slice none 0 0, .int .i64 0] 62)) w.heap.size A n c a l :=
    ⟨(Blk.new w _ _).ext (Ext.alloc _ _), hl.ext ((Ext.alloc _ _).to_alloc _), hA, fun hn ad e => by
      obtain ⟨ad', e', hc⟩ := hl.at_ hn
      rw [e] at e'
      injection e' with e'
      subst e'
      have := World.block_lt_of_cell? w _ (hc 0 hn)
      rw [block_of_add] at this
      exact ⟨by omega, by omega⟩⟩
  have b4 : Blk ((w.alloc (.cells #[.slice A n c, .int .i64 (a : Int)] 62)).alloc (.cells #[.slice none 0 0, .int .i64 0] 62)) (w.heap.size + 1) 62 #[.slice none 0 0, .int .i64 0] := by
    have := Blk.new (w.alloc (.cells #[.slice A n c, .int .i64 (a : Int)] 62)) 62 #[.slice none 0 0, .int .i64 0]
    rwa [World.size_alloc] at this
  have hx0 : Ext w ((w.alloc (.cells #[.slice A n c, .int .i64 (a : Int)] 62)).alloc (.cells #[.slice none 0 0, .int .i64 0] 62)) := (Ext.alloc _ _).to_alloc _
  have hall := And.intro (Lib.hid b2) (And.intro (Lib.hid b4) (Lib.hid hx0))
  have HST := Lib.hid hstep
  have HSP := Lib.hid hstop
  have H0 := Lib.hid h0
  clear b2 b4 hx0 hl hA hstep hstop h0
  go_enter Try.func33, Try.ntmps33
  go_upto_region 1 with fail
  revert hall
  generalize (w.alloc (.cells #[.slice A n c, .int .i64 (a : Int)] 62)).alloc (.cells #[.slice none 0 0, .int .i64 0] 62) = W
  obtain ⟨p2, hp2⟩ : ∃ p2, w.heap.size = p2 := ⟨_, rfl⟩
  rw [hp2]
  have hpp : w.heap.size ≤ p2 := by omega
  clear hp2
  rintro ⟨b2, b4, hx0⟩
  go_wp2_with fail
  go_loopw [11] (fun s wr => ∃ (k q r : Nat) (B : Option Addr), k ≤ j ∧ s = .int .i64 k ∧ Hid (LineAt wr p2 B q r (P k) (S k)) ∧ Hid (Blk wr (p2 + 1) 62 #[.slice none 0 0, .int .i64 0]) ∧ Hid (Ext w wr)) (fun s _ => j - (intOf s).toNat)
  case atStart => exact ⟨0, n, c, A, by omega, rfl, Lib.hid (by rw [H0.out.1, H0.out.2]; exact b2.out), b4, hx0⟩
  case round =>
    clear b2 b4 hx0
    obtain ⟨k, q, r, B, hkj, rfl, HL, HZ, HX⟩ := hrel
    have hkm : k < m := by omega
    obtain ⟨ad, rfl, hc⟩ := (hk.ext HX.out).at_ hkm
    have c0 := hc k hkm
    obtain ⟨k0, k1⟩ := cells2 HL.out.1
    clear hc
    by_cases hlt : k < j
    · have HK := Lib.hid (HST.out k wr B q r hlt HL.out.2.1 HL.out.2.2.1)
      go_wp2_with fail
      refine HK.out.mono ?_
      rintro e w1 ⟨he1, B1, q1, r1, rfl, ho1⟩
      have hpB : p2 + 1 < wr.heap.size := HZ.out.lt
      have HL1 := Lib.hid (LineAt.put (b := P (k + 1)) (HL.out.ext he1) ho1 hpB)
      have HZ1 := Lib.hid (st2_farE (HZ.out.ext he1) (show p2 ≠ p2 + 1 by omega) (.slice B1 q1 r1) (.int .i64 (P (k + 1) : Int)))
      have HX1 := Lib.hid (st2_ext (HX.out.trans he1) hpp (.slice B1 q1 r1) (.int .i64 (P (k + 1) : Int)))
      obtain ⟨d0, d1⟩ := cells2 (HL.out.1.ext he1)
      obtain ⟨f0, f1⟩ := frozen2 (HL.out.1.ext he1)
      unfold st2 at HL1 HZ1 HX1
      clear HK HL HZ HX k0 k1 he1 ho1
      go_wp2_with fail
      go_roundw
      case rel => exact ⟨k + 1, q1, r1, B1, by omega, by go_num, HL1, HZ1, HX1⟩
      case measure => simp [intOf]; omega
    · obtain rfl : k = j := by omega
      have HK := Lib.hid (HSP.out wr B q r HL.out.2.1)
      go_wp2_with fail
      refine HK.out.mono ?_
      rintro e w1 ⟨he1, x, hx, rfl⟩
      have hx1 : (x != 0) = true := by simpa using hx
      obtain ⟨d0, d1⟩ := cells2 (HL.out.1.ext he1)
      obtain ⟨f0, f1⟩ := frozen2 (HL.out.1.ext he1)
      have HB1 : Hid (Blk (st2 w1 p2 (.slice none 0 0) (.int .i64 0)) p2 62 #[.slice none 0 0, .int .i64 0]) := Lib.hid (st2_blk (HL.out.1.ext he1) _ _)
      have HZ1 := Lib.hid (st2_farE (HZ.out.ext he1) (show p2 ≠ p2 + 1 by omega) (.slice none 0 0) (.int .i64 0))
      have HX1 := Lib.hid (st2_ext (HX.out.trans he1) hpp (.slice none 0 0) (.int .i64 0))
      clear HK HL HZ HX k0 k1 he1 hx
      unfold st2 at HB1 HZ1 HX1
      go_upto_if 22 with fail
      revert HB1 HZ1 HX1
      generalize (w1.setCell ⟨p2, 0, none⟩ (.slice none 0 0)).setCell ⟨p2, 1, none⟩ (.int .i64 0) = w2
      intro HB1 HZ1 HX1
      obtain ⟨e0, e1⟩ := cells2 HB1.out
      obtain ⟨z0, z1⟩ := cells2 HZ1.out
      obtain ⟨y0, y1⟩ := frozen2 HZ1.out
      have hfin := Lib.hid (st2_blk HZ1.out (.slice none 0 0) (.int .i64 0))
      have hX := Lib.hid (st2_ext HX1.out (show w.heap.size ≤ p2 + 1 by omega) (.slice none 0 0) (.int .i64 0))
      unfold st2 at hfin hX
      clear HB1 HZ1 HX1 d0 d1 f0 f1
      go_wp2_with fail
      refine bodyPost_ret (v := .tuple #[.agg #[.slice none 0 0, .int .i64 0], .bool false]) ?_ rfl ⟨hX.out, rfl⟩
      exact results_row_t1 rfl _ _ (p2 + 1) 62 _ _ _ _ rfl rfl hfin.out Try.underlying62 rfl (line_size rfl)
end Go.Proofs.Ythphlghblmindaa
