/-
  The walk of RingLast.
-/
import Derived.Test.YtbhbakejpgndmaaRingX
import Derived.Deep.RegionHeld3
import Derived.Deep.DeepCutAuto
import Derived.Deep.CutRange
namespace Go.Proofs.Ytbhbakejpgndmaa
open Go.RowKit
set_option linter.unusedVariables false
set_option linter.unusedSimpArgs false

theorem Own.setOther {w : World} {base e z n c : Nat} {A : Option Addr} {xs : List Value} (h : Own w base e z A n c xs) {p : Addr} (hp : p.block < base) (u : Value) : Own (w.setCell p u) base e z A n c xs := h.setCell hp u
/-- What a push leaves of all else. -/
def Pushed (w w' : World) (s g : Nat) : Prop := ∃ (x : ByteArray) (p i : Nat) (u : Value), w' = (w.setCell ⟨s, p, none⟩ (.string x)).drew.setCell ⟨g, i, none⟩ u
theorem Pushed.ext {w0 w w' : World} {s g : Nat} (h : Pushed w w' s g) (he : Ext w0 w) (hs : w0.heap.size ≤ s) (hg : w0.heap.size ≤ g) : Ext w0 w' := by
  obtain ⟨x, p, i, u, rfl⟩ := h
  exact ((he.setCell hs _).to_drew).setCell hg _
theorem Pushed.own {w w' : World} {s g base e z n c : Nat} {A : Option Addr} {xs : List Value} (h : Pushed w w' s g) (ho : Own w base e z A n c xs) (hs : s < base) (hg : g < base) : Own w' base e z A n c xs := by
  obtain ⟨x, p, i, u, rfl⟩ := h
  exact Own.setCell (Own.ext (Own.setCell ho (by exact hs) _) (Ext.drew _)) (by exact hg) _
theorem Pushed.size {w w' : World} {s g : Nat} (h : Pushed w w' s g) : w'.heap.size = w.heap.size := by
  obtain ⟨x, p, i, u, rfl⟩ := h
  simp
theorem RingAt.grown {w w' : World} {g s n f z : Nat} {ss : List ByteArray} (h : RingAt w g s n f z ss) {row : Option Nat} (hb : w.grownBy w' row) (h1 : some g ≠ row) (h2 : some s ≠ row) : RingAt w' g s n f z ss :=
  ⟨h.1.grown hb h1, h.2.1.grown hb h2, h.2.2⟩

/-- The ring when j strings have been pushed. -/
def Held (w : World) (g s room : Nat) (l : List ByteArray) (j : Nat) : Prop :=
  ∃ f ss, RingAt w g s room f (min j room) ss ∧ slotsOk l ss room j ∧ (0 < room → f = (j - min j room) % room)
theorem Held.ext {w w' : World} {g s room : Nat} {l : List ByteArray} {j : Nat} (h : Held w g s room l j) (he : Ext w w') : Held w' g s room l j := by
  obtain ⟨f, ss, h1, h2, h3⟩ := h
  exact ⟨f, ss, h1.ext he, h2, h3⟩
theorem Held.grown {w w' : World} {g s room : Nat} {l : List ByteArray} {j : Nat} (h : Held w g s room l j) {row : Option Nat} (hb : w.grownBy w' row) (h1 : some g ≠ row) (h2 : some s ≠ row) : Held w' g s room l j := by
  obtain ⟨f, ss, k1, k2, k3⟩ := h
  exact ⟨f, ss, k1.grown hb h1 h2, k2, k3⟩

/-- A push of the j-th string: what comes out. -/
def pushR (l : List ByteArray) (room j : Nat) : Value × Bool :=
  if room = 0 then (.string (gS l j), true) else if j < room then (.string .empty, false) else (.string (gS l (j - room)), true)
theorem push_held {w : World} {g s room : Nat} {l : List ByteArray} {j : Nat} (h : Held w g s room l j) (hr : room ≤ 65536) :
    Calls Try.prog 16 #[.pointer (some ⟨g, 0, none⟩), .string (gS l j)] w fun e w' => e = .returned (.tuple #[(pushR l room j).1, .bool (pushR l room j).2]) ∧ Held w' g s room l (j + 1) ∧ (w = w' ∨ Pushed w w' s g) := by
  obtain ⟨f, ss, h1, h2, h3⟩ := h
  unfold pushR
  by_cases h0 : room = 0
  · subst h0
    rw [if_pos rfl]
    have e1 : min j 0 = 0 := by omega
    rw [e1] at h1
    refine (push_zero (gS l j) h1).mono ?_
    rintro e w' ⟨rfl, rfl⟩
    refine ⟨rfl, ⟨f, ss, ?_, ⟨h2.1, fun k _ hk => ?_⟩, fun h => absurd h (by omega)⟩, .inl rfl⟩
    · have e2 : min (j + 1) 0 = 0 := by omega
      rw [e2]; exact h1
    · omega
  · rw [if_neg h0]
    have hp : 0 < room := by omega
    have hf := h3 hp
    have hfl : f < room := by rw [hf]; exact Nat.mod_lt _ hp
    by_cases hj : j < room
    · rw [if_pos hj]
      have e1 : min j room = j := by omega
      have e2 : min (j + 1) room = j + 1 := by omega
      rw [e1] at h1 hf
      have hf0 : f = 0 := by rw [hf, Nat.sub_self]; exact Nat.zero_mod _
      subst hf0
      refine (push_room (gS l j) h1 h2.1 hj hfl hr).mono ?_
      rintro e w' ⟨rfl, k1, p, i, u, k2⟩
      exact ⟨rfl, ⟨0, ss.set ((0 + j) % room) (gS l j), by rw [e2]; exact k1, by rw [Nat.zero_add]; exact slots_push hp h2, fun _ => by rw [e2, Nat.sub_self]; exact (Nat.zero_mod _).symm⟩, .inr ⟨_, p, i, u, k2⟩⟩
    · rw [if_neg hj]
      have e1 : min j room = room := by omega
      have e2 : min (j + 1) room = room := by omega
      rw [e1] at h1 hf
      refine (push_full (gS l j) h1 h2.1 hfl hr).mono ?_
      rintro e w' ⟨rfl, k1, p, i, u, k2⟩
      have hold : gS ss f = gS l (j - room) := by
        rw [hf]; exact h2.2 _ (by omega) (by omega)
      have hfj : f = j % room := by
        rw [hf]
        conv => rhs; rw [show j = j - room + room by omega, Nat.add_mod_right]
      exact ⟨by rw [hold], ⟨(f + 1) % room, ss.set f (gS l j), by rw [e2]; exact k1, by
        have := slots_push hp h2
        rw [← hfj] at this
        exact this, fun _ => by
        rw [e2, hf, Nat.mod_add_mod]
        congr 1
        omega⟩, .inr ⟨_, p, i, u, k2⟩⟩

/-- What the ring holds at the end. -/
theorem held_list {room f : Nat} {l ss : List ByteArray} (h2 : slotsOk l ss room l.length) (h3 : 0 < room → f = (l.length - min l.length room) % room) :
    ringL ss room f (min l.length room) = l.drop (l.length - min l.length room) := by
  rcases Nat.eq_zero_or_pos room with h0 | h0
  · subst h0
    simp [ringL]
  · refine List.ext_getElem (by rw [ringL_len, List.length_drop]; omega) fun k hk1 hk2 => ?_
    rw [ringL_len] at hk1
    simp only [ringL, List.getElem_map, List.getElem_range, List.getElem_drop]
    rw [h3 h0, slots_at h0 h2 hk1]
    rw [List.length_drop] at hk2
    simp [gS, show l.length - min l.length room + k < l.length by omega]

theorem pushR_out (l : List ByteArray) (room j : Nat) (hj : j < l.length) :
    ((pushR l room j).2 = true ∧ j + 1 - min (j + 1) room = j - min j room + 1 ∧ (pushR l room j).1 = .string (gS l (j - min j room))) ∨ ((pushR l room j).2 = false ∧ j + 1 - min (j + 1) room = j - min j room ∧ (pushR l room j).1 = .string .empty) := by
  unfold pushR
  by_cases h0 : room = 0
  · subst h0
    rw [if_pos rfl]
    exact .inl ⟨rfl, by omega, by rw [show j - min j 0 = j by omega]⟩
  · rw [if_neg h0]
    by_cases h1 : j < room
    · rw [if_pos h1]
      exact .inr ⟨rfl, by omega, rfl⟩
    · rw [if_neg h1]
      exact .inl ⟨rfl, by omega, by rw [show j - min j room = j - room by omega]⟩
theorem equalS_same {A B : Option Addr} {n c d : Nat} {l : List ByteArray} {w : World} (hl : Strs w A n c l) (hl' : Strs w B n d l) :
    Calls Try.prog 18 #[.slice A n c, .slice B n d] w fun e w' => e = .returned (.bool true) ∧ Ext w w' :=
  (equalS_ok hl hl').mono fun e w' ⟨h1, k, h2⟩ => ⟨by rw [h1, eqS_true.2 rfl], by rw [h2]; exact Ext.drewN _ _⟩
theorem takeS_snoc {l : List ByteArray} {k : Nat} (h : k < l.length) : l.take k ++ [gS l k] = l.take (k + 1) := by
  rw [List.take_succ_eq_append_getElem h]
  simp [gS, h]

/-- Pushes of all strings; what goes is kept. -/
def LoopR (w w1 wr : World) (g s room : Nat) (l : List ByteArray) (v i : Value) (n : Nat) : Prop :=
  ∃ (j : Nat) (A : Option Addr) (q c : Nat), j ≤ n ∧ q = j - min j room ∧ i = .int .i64 j ∧ v = .slice A q c ∧ OwnS wr w1.heap.size A q c (l.take q) ∧ Held wr g s room l j ∧ Ext w wr ∧ wr.heap.size ≥ w1.heap.size

set_option maxRecDepth 100000 in
set_option maxHeartbeats 8000000 in
theorem ringLast_walk {l : List ByteArray} {A : Option Addr} {n c : Nat} {most : Int} {w : World} (hl : Strs w A n c l) (hA : A = none → c = 0) (hb : n * 16 ≤ 140737488351232) :
    Calls Try.prog 4 #[.int .i64 most, .slice A n c] w fun e w' => e = .returned (.bool true) ∧ Ext w w' := by
  obtain ⟨i0, hi, hz0, hz1, hz2⟩ := info_parts info_string
  have HI := Lib.hid hi
  clear hi
  have hnc := hl.ncap
  have hcm := hl.nmax
  have hlen := Lib.hid hl.len
  have HA := Lib.hid hA
  have HB := Lib.hid hb
  clear hA
  have hn8 : n ≤ 8796093022208 := by omega
  unfold maxLen at hcm
  clear hb
  obtain ⟨room, hroom⟩ : ∃ room : Nat, (65536 < most ∧ room = 65536) ∨ (most ≤ 65536 ∧ 0 < most ∧ (room : Int) = most) ∨ (most ≤ 0 ∧ room = 0) := by
    by_cases h1 : 65536 < most
    · exact ⟨65536, .inl ⟨h1, rfl⟩⟩
    · by_cases h2 : 0 < most
      · exact ⟨most.toNat, .inr (.inl ⟨by omega, h2, by omega⟩)⟩
      · exact ⟨0, .inr (.inr ⟨by omega, rfl⟩)⟩
  have hr6 : room ≤ 65536 := by omega
  have HN := Lib.hid (ringNew_ok most room hroom w)
  have HR := Lib.hid hroom
  clear hroom
  go_enter Try.func4, Try.ntmps4
  go_wp2_with fail
  refine HN.out.mono ?_
  rintro e w1 ⟨rfl, hring, he1⟩
  have hgs : w.heap.size + 1 < w1.heap.size := hring.1.lt
  have hheld : Held w1 (w.heap.size + 1) w.heap.size room l 0 := by
    refine ⟨0, _, ?_, slots_start l (List.replicate room ByteArray.empty) (by simp), fun h => ?_⟩
    · rw [Nat.zero_min]; exact hring
    · rw [Nat.zero_min]; exact (Nat.zero_mod _).symm
  have hg0 : w.heap.size ≤ w.heap.size + 1 := Nat.le_succ _
  have hs0 : w.heap.size ≤ w.heap.size := Nat.le_refl _
  have hs1 : w.heap.size < w1.heap.size := by omega
  revert hheld hgs hg0 hs0 hs1
  clear HN hring
  generalize w.heap.size + 1 = g
  generalize hss : w.heap.size = s
  intro hgs hheld hg0 hs0 hs1
  have HS := Lib.hid hss
  clear hss
  go_wp2_with fail
  go_loopw [6, 20] (fun v i wr => LoopR w w1 wr g s room l v i n) (fun _ i _ => n - (intOf i).toNat)
  case atStart => exact ⟨0, none, 0, 0, by omega, by omega, rfl, rfl, OwnS.nil _ _, hheld, he1, Nat.le_refl _⟩
  case round =>
    obtain ⟨j, B, q, d, hj, hq, rfl, rfl, hown, hh, he, hsz⟩ := hrel
    clear hheld
    by_cases hlt : j < n
    · obtain ⟨ad, rfl, hc⟩ := hl.at_ hlt
      have c1 := he.cell (hc j hlt)
      have HP := Lib.hid (push_held hh hr6)
      have hpo := pushR_out l room j (by rw [hlen.out]; exact hlt)
      have HQ := Lib.hid hq
      clear hc hq
      go_wp2_with fail
      refine HP.out.mono ?_
      rintro e w2 ⟨rfl, hh2, hpu⟩
      have he2 : Ext w w2 := by
        rcases hpu with rfl | hpu
        · exact he
        · exact hpu.ext he (by rw [HS.out]; exact Nat.le_refl _) (by rw [HS.out]; exact hg0)
      have hown2 : OwnS w2 w1.heap.size B q d (l.take q) := by
        rcases hpu with rfl | hpu
        · exact hown
        · exact hpu.own hown hs1 hgs
      have hsz2 : w2.heap.size ≥ w1.heap.size := by
        rcases hpu with rfl | hpu
        · exact hsz
        · rw [hpu.size]; exact hsz
      clear HP hpu hh hown he hsz
      rcases hpo with ⟨h1, h2, h3⟩ | ⟨h1, h2, h3⟩
      · rw [h1, h3]
        have HQ2 : Hid (q + 1 = j + 1 - min (j + 1) room ∧ gS l (j - min j room) = gS l q ∧ q < n) := Lib.hid ⟨by rw [h2, HQ.out], by rw [HQ.out], by have := HQ.out; omega⟩
        rw [HQ2.out.2.1]
        have hqn : q < n := HQ2.out.2.2
        clear h1 h2 h3
        go_wp2_with (at_builtin; refine wpList_push rfl (.tmp 31) (.tmp 33) 30 rfl w w1.heap.size 9 i0 (.string .empty) 1 16 Try.underlying30 HI.out hz0 hz1 hz2 rfl (by decide) B q d _ rfl hown2 #[.string (gS l q)] rfl ?_ rfl ?_ ?_ he2 ?_ hsz2 ?_)
        · rfl
        · unfold maxLen; omega
        · have := HB.out; omega
        · exact he1.hsize
        · intro B' d' w3 hown' hgr _ he'
          have hown3 : OwnS w3 w1.heap.size B' (q + 1) d' (l.take (q + 1)) := by
            rw [← takeS_snoc (by rw [hlen.out]; exact hqn)]; simpa [OwnS] using hown'
          have hh3 : Held w3 g s room l (j + 1) := hh2.grown hgr
            (fun e => by have := Own.blk hown2 g e.symm; omega) (fun e => by have := Own.blk hown2 s e.symm; omega)
          have hsz3 : w3.heap.size ≥ w1.heap.size := Nat.le_trans hsz2 hgr.size
          clear hown2 hown' hgr he2 hh2
          go_wp2_with fail
          go_roundw
          case rel => exact ⟨j + 1, B', q + 1, d', by omega, HQ2.out.1, by go_num, rfl, hown3, hh3, he', hsz3⟩
          case measure => simp [intOf]; omega
      · rw [h1, h3]
        have HQ2 : Hid (q = j + 1 - min (j + 1) room) := Lib.hid (by rw [h2, HQ.out])
        clear h1 h2 h3
        go_wp2_with fail
        go_roundw
        case rel => exact ⟨j + 1, B, q, d, by omega, HQ2.out, by go_num, rfl, hown2, hh2, he2, hsz2⟩
        case measure => simp [intOf]; omega
    · obtain rfl : j = n := by omega
      obtain ⟨f, ss, hring, hslots, hff⟩ := hh
      have HF : Hid (ringL ss room f (min j room) = l.drop q) := Lib.hid (by
        have hs' : slotsOk l ss room l.length := by rw [hlen.out]; exact hslots
        have := held_list (f := f) hs' (by rw [hlen.out]; exact hff)
        rw [hlen.out, ← hq] at this
        exact this)
      have HSL := Lib.hid hslots.1
      have HFR : Hid (f < room ∨ room = 0) := Lib.hid (by
        rcases Nat.eq_zero_or_pos room with h0 | h0
        · exact .inr h0
        · exact .inl (by rw [hff h0]; exact Nat.mod_lt _ h0))
      have HG := Lib.hid hown.strs
      have HQ := Lib.hid hq
      have HRG := Lib.hid hring
      have hqj : q ≤ j := by omega
      have hqz : q + min j room = j := by omega
      obtain ⟨z, hz⟩ : ∃ z, z = min j room := ⟨_, rfl⟩
      have HZ : Hid (z = min j room ∧ z ≤ room ∧ q + z = j) := Lib.hid ⟨hz, by omega, by omega⟩
      have HE := Lib.hid he
      clear hslots hff hown hring hq hqz hz he hsz
      go_upto_region 10 with fail
      go_cut [11] from 36 to 38 (fun s11 wx => s11 = .int .i64 room ∧ wr = wx)
      case first =>
        rcases HR.out with ⟨h1, h2⟩ | ⟨h1, h2, h3⟩ | ⟨h1, h2⟩
        · have h2' : (room : Int) = 65536 := by omega
          have HH := Lib.hid h2'
          clear h2 h2'
          go_wp2_with fail
          go_meet
          exact ⟨by rw [HH.out], rfl⟩
        · have HH := Lib.hid h3
          clear h3
          go_wp2_with fail
          go_meet
          exact ⟨by rw [HH.out], rfl⟩
        · have h2' : (room : Int) = 0 := by omega
          have HH := Lib.hid h2'
          clear h2 h2'
          go_wp2_with fail
          all_goals
            go_meet
            exact ⟨by have := HH.out; congr 1; omega, rfl⟩
      case rest =>
        obtain ⟨rfl, rfl⟩ := hcut
        go_upto_region 11 with fail
        go_cut [12] from 39 to 43 (fun s12 wx => s12 = .int .i64 q ∧ wr = wx)
        case first =>
          by_cases hjr : room < j
          · have HH : Hid ((j : Int) - (room : Int) = (q : Int)) := Lib.hid (by have := HQ.out; omega)
            have hx : (room : Int) < (j : Int) := by omega
            go_wp2_with fail
            go_meet
            exact ⟨by rw [HH.out], rfl⟩
          · have HH : Hid ((q : Int) = 0) := Lib.hid (by have := HQ.out; omega)
            have hx : (j : Int) ≤ (room : Int) := by omega
            go_wp2_with fail
            go_meet
            exact ⟨by rw [HH.out], rfl⟩
        case rest =>
          obtain ⟨rfl, rfl⟩ := hcut
          have HN1 := Lib.hid (ringNew_ok 1 1 (.inr (.inl ⟨by omega, by omega, by omega⟩)) wr)
          go_wp2_with fail
          refine HN1.out.mono ?_
          rintro e w2 ⟨rfl, hr2, he2⟩
          have HL1 : Hid (Calls Try.prog 17 #[.pointer (some ⟨wr.heap.size + 1, 0, none⟩)] w2 fun e w' => e = .returned (.int .i64 0) ∧ w2 = w') := Lib.hid (ringLen_ok hr2)
          have HP1 : Hid (Calls Try.prog 16 #[.pointer (some ⟨wr.heap.size + 1, 0, none⟩), .string ⟨#[97]⟩] w2 fun e w' => e = .returned (.tuple #[.string ⟨#[]⟩, .bool false]) ∧ Ext wr w' ∧ Calls Try.prog 17 #[.pointer (some ⟨wr.heap.size + 1, 0, none⟩)] w' fun e w3 => e = .returned (.int .i64 1) ∧ w' = w3) :=
            Lib.hid ((push_room ⟨#[97]⟩ hr2 (by simp) (by omega) (by omega) (by omega)).mono fun e w' ⟨k1, k2, p, i, u, k3⟩ => ⟨k1, Pushed.ext ⟨_, p, i, u, k3⟩ he2 (Nat.le_refl _) (Nat.le_succ _), ringLen_ok k2⟩)
          clear HN1 hr2 he2
          go_wp2_with fail
          refine HL1.out.mono ?_
          rintro e w3 ⟨rfl, rfl⟩
          clear HL1
          go_wp2_with fail
          refine HP1.out.mono ?_
          rintro e w3 ⟨rfl, he3, hlen3⟩
          have HL2 := Lib.hid hlen3
          clear HP1 hlen3
          go_wp2_with fail
          refine HL2.out.mono ?_
          rintro e w4 ⟨rfl, rfl⟩
          clear HL2
          go_wp2_with fail
          have HLs : Hid (∀ w', Ext w3 w' → Calls Try.prog 19 #[.pointer (some ⟨g, 0, none⟩)] w' fun e w'' => ∃ A c, e = .returned (.slice A z c) ∧ Strs w'' A z c (l.drop q) ∧ Ext w' w'') :=
            Lib.hid (fun w' h => by
              have := ringList_ok (HRG.out.ext (he3.trans h)) HSL.out (by have := HZ.out; omega) HFR.out hr6
              rw [HF.out, ← HZ.out.1] at this
              exact this)
          have HE2 : Hid (∀ w', Ext w3 w' → Calls Try.prog 18 #[.slice B q d, .slice A q c] w' fun e w'' => e = .returned (.bool true) ∧ Ext w' w'') :=
            Lib.hid (fun w' h => equalS_same (HG.out.ext (he3.trans h)) ((hl.front hqj).ext (HE.out.trans (he3.trans h))))
          have HX4 : Hid (Ext w w3) := Lib.hid (HE.out.trans he3)
          have hzq : z = j - q := by have := HZ.out; omega
          subst hzq
          clear HF HSL HFR HG HQ HRG HE he3 HR HZ
          rcases A with _ | ad
          · have h0 := HA.out rfl
            obtain rfl : j = 0 := by omega
            obtain rfl : q = 0 := by omega
            subst h0
            obtain rfl : l = [] := List.eq_nil_of_length_eq_zero hlen.out
            have HT : Hid (∀ w', Ext w3 w' → Strs w' none 0 0 []) := Lib.hid (fun w' h => Strs.none_ _)
            go_region_held3 (fun w' => Ext w3 w') (first | assumption | exact Ext.drew _ | exact Ext.trans (by assumption) (by assumption)) (first
              | (go_at_call 19
                 refine (HLs.out _ (by first | assumption | exact Ext.drew _)).mono ?_
                 rintro e w5 ⟨A5, c5, rfl, hs5, he5⟩
                 have hx5 := Ext.trans (by first | assumption | exact Ext.drew _) he5)
              | (go_at_call_of 18 (Value.slice B 0 d)
                 refine (HE2.out _ (by assumption)).mono ?_
                 rintro e w6 ⟨rfl, he6⟩)
              | (go_at_call 18
                 refine (equalS_same hs5 (HT.out _ hx5)).mono ?_
                 rintro e w6 ⟨rfl, he6⟩
                 have hx6 := Ext.trans hx5 he6))
            all_goals
              go_wp2_with fail
              go_ret
              exact ⟨rfl, HX4.out.trans (by assumption)⟩
          · by_cases hcq : c = q
            · subst hcq
              obtain rfl : c = j := by omega
              have hd0 : l.drop c = [] := List.drop_of_length_le (by rw [hlen.out]; exact Nat.le_refl _)
              rw [hd0] at HLs
              have hjj : c - c = 0 := Nat.sub_self _
              rw [hjj] at HLs
              clear hd0 hjj
              have HT : Hid (∀ w', Ext w3 w' → Strs w' (some ad) 0 0 []) := Lib.hid (fun w' h => ⟨rfl, Nat.le_refl _, by unfold maxLen; omega, fun h => absurd h (by omega)⟩)
              go_region_held3 (fun w' => Ext w3 w') (first | assumption | exact Ext.drew _ | exact Ext.trans (by assumption) (by assumption)) (first
                | (go_at_call 19
                   refine (HLs.out _ (by first | assumption | exact Ext.drew _)).mono ?_
                   rintro e w5 ⟨A5, c5, rfl, hs5, he5⟩
                   have hx5 := Ext.trans (by first | assumption | exact Ext.drew _) he5)
                | (go_at_call_of 18 (Value.slice B c d)
                   refine (HE2.out _ (by assumption)).mono ?_
                   rintro e w6 ⟨rfl, he6⟩)
                | (go_at_call 18
                   refine (equalS_same hs5 (HT.out _ hx5)).mono ?_
                   rintro e w6 ⟨rfl, he6⟩
                   have hx6 := Ext.trans hx5 he6))
              all_goals
                go_wp2_with fail
                go_ret
                exact ⟨rfl, HX4.out.trans (by assumption)⟩
            · have hq2 : (q : Int) ≤ (j : Int) := by omega
              have hq4 : (q : Int) ≤ (c : Int) := by omega
              have hq5 : (j : Int) ≤ (c : Int) := by omega
              have hq6 : (0 : Int) ≤ (q : Int) := by omega
              have hq3 : ¬ (c : Int) = (q : Int) := by omega
              have HT : Hid (∀ w', Ext w3 w' → Strs w' (some (ad.add q)) (j - q) (c - q) (l.drop q)) := Lib.hid (fun w' h => (Strs.back hl hqj).ext (HX4.out.trans h))
              go_region_held3 (fun w' => Ext w3 w') (first | assumption | exact Ext.drew _ | exact Ext.trans (by assumption) (by assumption)) (first
                | (go_at_call 19
                   refine (HLs.out _ (by first | assumption | exact Ext.drew _)).mono ?_
                   rintro e w5 ⟨A5, c5, rfl, hs5, he5⟩
                   have hx5 := Ext.trans (by first | assumption | exact Ext.drew _) he5)
                | (go_at_call_of 18 (Value.slice B q d)
                   refine (HE2.out _ (by assumption)).mono ?_
                   rintro e w6 ⟨rfl, he6⟩)
                | (go_at_call 18
                   refine (equalS_same hs5 (HT.out _ hx5)).mono ?_
                   rintro e w6 ⟨rfl, he6⟩
                   have hx6 := Ext.trans hx5 he6))
              all_goals
                go_wp2_with fail
                go_ret
                exact ⟨rfl, HX4.out.trans (by assumption)⟩
end Go.Proofs.Ytbhbakejpgndmaa
