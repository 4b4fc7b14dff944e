/-
  splice.Over: the walk.
-/
import Derived.Test.YthphlghblmindaaSplQ
namespace Go.Proofs.Ythphlghblmindaa
open Go.RowKit
set_option linter.unusedVariables false
set_option linter.unusedSimpArgs false

/-- How large the builder is. -/
def Sm (b : Bld) (A X : Nat) : Prop := b.out.length ≤ b.a ∧ b.a ≤ A ∧ b.now.x.length ≤ X
theorem Sm.begin {b : Bld} {A X : Nat} (h : Sm b A X) : Sm b.begin A X := by
  unfold Bld.begin
  split
  · exact h
  · exact ⟨h.1, h.2.1, Nat.zero_le _⟩
theorem Sm.put {b : Bld} {A X : Nat} (h : Sm b A X) (x : List Int) : Sm (b.put x) A (X + x.length) := by
  unfold Bld.put
  split
  · exact ⟨h.1, h.2.1, by have := h.2.2; omega⟩
  · have h2 := h.begin
    exact ⟨h2.1, h2.2.1, by have := h2.2.2; simp only [List.length_append]; omega⟩
theorem Sm.keep {b : Bld} {A X : Nat} (h : Sm b A X) : Sm b.keep (A + 1) X := by
  obtain ⟨h1, h2, h3⟩ := h
  unfold Bld.keep
  split
  · exact ⟨by simp; omega, by simp only; omega, h3⟩
  · exact ⟨by simp only; omega, by simp only; omega, h3⟩
theorem Sm.keeps {b : Bld} {A X : Nat} (h : Sm b A X) : ∀ k, Sm (b.keeps k) (A + k) X
  | 0 => h
  | k + 1 => (Sm.keeps h k).keep
theorem Sm.drop {b : Bld} {A X : Nat} (h : Sm b A X) : Sm b.drop (A + 1) X := by
  obtain ⟨h1, h2, h3⟩ := h.begin
  exact ⟨by show b.begin.out.length ≤ b.begin.a + 1; omega, by show b.begin.a + 1 ≤ A + 1; omega, h3⟩
theorem Sm.mono {b : Bld} {A X A' X' : Nat} (h : Sm b A X) (hA : A ≤ A') (hX : X ≤ X') : Sm b A' X' := ⟨h.1, by have := h.2.1; omega, by have := h.2.2; omega⟩

theorem chkL_text {n : Int} : ∀ {e : List Spl} {last size : Int}, chkL n last size e = 0 → ∀ s ∈ e, s.x.length ≤ 4096
  | [], _, _, _, s, hs => by cases hs
  | u :: e, last, size, h, s, hs => by
    simp only [chkL] at h
    split at h
    · cases h
    · split at h
      · cases h
      · rename_i h1 h2
        rcases List.mem_cons.1 hs with rfl | h3
        · omega
        · exact chkL_text h s h3
theorem rdSkip_mem (i : Int) : ∀ (e : List Spl), ∀ s ∈ rdSkip i e, s ∈ e
  | [], s, h => by cases h
  | u :: e, s, h => by
    simp only [rdSkip] at h
    split at h
    · exact List.mem_cons_of_mem _ (rdSkip_mem i e s h)
    · exact h
theorem txt_len {n : Int} {e : List Spl} (h : chkF n e = 0) (i : Nat) : (txt e i).length ≤ 4096 := by
  have h1 : ∀ s ∈ e, s.x.length ≤ 4096 := by
    unfold chkF at h
    split at h
    · cases h
    · exact chkL_text h
  unfold txt
  cases hs : rdSkip i e with
  | nil => simp [rdText]
  | cons s r =>
    simp only [rdText]
    split
    · exact h1 s (rdSkip_mem i e s (by rw [hs]; exact List.mem_cons_self ..))
    · simp

/-- What the loop keeps. -/
structure OvAt (w w' : World) (ga gr g base : Nat) (ea eb : List Spl) (k : Nat) (b : Bld) : Prop where
  fst : ∃ (A : Option Addr) (m d : Nat) (e : List Spl), Blk w' ga 90 #[.slice A m d] ∧ EditAt w A m d e ∧ ∀ i : Nat, k ≤ i → rdSkip i e = rdSkip i ea
  snd : ∃ (A : Option Addr) (m d : Nat) (e : List Spl), Blk w' gr 90 #[.slice A m d] ∧ EditAt w A m d e ∧ ∀ i : Nat, k ≤ i → rdSkip i e = rdSkip i eb
  bld : BldAt w' base g b
  wld : Ext w w'
theorem OvAt.step {w w' w2 : World} {ga gr g base : Nat} {ea eb : List Spl} {k : Nat} {b b2 : Bld} (h : OvAt w w' ga gr g base ea eb k b) (hb : BldAt w2 base g b2) (hk : KeepsB w' w2 g base) (h1 : ga < base) (h2 : gr < base) (h3 : g ≠ ga) (h4 : g ≠ gr) (h5 : w.heap.size ≤ g) (h6 : w.heap.size ≤ base) :
    OvAt w w2 ga gr g base ea eb k b2 :=
  ⟨let ⟨A, m, d, e, p1, p2, p3⟩ := h.fst; ⟨A, m, d, e, hk.blk h3 h1 p1, p2, p3⟩, let ⟨A, m, d, e, p1, p2, p3⟩ := h.snd; ⟨A, m, d, e, hk.blk h4 h2 p1, p2, p3⟩, hb, hk.world h.wld h5 h6⟩
theorem rd_on {e e2 : List Spl} {k : Nat} (h : ∀ i : Nat, k ≤ i → rdSkip i e = rdSkip i e2) : ∀ i : Nat, k + 1 ≤ i → rdSkip i (rdSkip k e) = rdSkip i e2 := fun i hi => by
  rw [rdSkip_skip (by omega), h i (by omega)]
theorem rd_up {e e2 : List Spl} {k : Nat} (h : ∀ i : Nat, k ≤ i → rdSkip i e = rdSkip i e2) : ∀ i : Nat, k + 1 ≤ i → rdSkip i e = rdSkip i e2 := fun i hi => h i (by omega)

set_option maxHeartbeats 1000000 in
theorem ov_fst {w w' : World} {ga gr g base k : Nat} {ea eb : List Spl} {b : Bld} (h : OvAt w w' ga gr g base ea eb k b) (hg : w.heap.size ≤ ga) (h1 : ga < base) (h3 : ga ≠ g) (h4 : ga ≠ gr) (hk : k ≤ 8192) :
    Calls Try.prog 48 #[.pointer (some ⟨ga, 0, none⟩), .int .i64 k] w' fun e' w2 => (∃ B n c, e' = .returned (.tuple #[.slice B n c, .bool (gos ea k)]) ∧ Ints w B n c (txt ea k)) ∧
      (∃ (A : Option Addr) (m d : Nat) (e : List Spl), Blk w2 ga 90 #[.slice A m d] ∧ EditAt w A m d e ∧ ∀ i : Nat, k + 1 ≤ i → rdSkip i e = rdSkip i ea) ∧
      (∃ (A : Option Addr) (m d : Nat) (e : List Spl), Blk w2 gr 90 #[.slice A m d] ∧ EditAt w A m d e ∧ ∀ i : Nat, k ≤ i → rdSkip i e = rdSkip i eb) ∧ BldAt w2 base g b ∧ Ext w w2 := by
  obtain ⟨⟨A, m, d, e, p1, p2, p3⟩, ⟨A', m', d', e2, q1, q2, q3⟩, hb, hx⟩ := h
  refine (at_ok p1 p2 hx hg hk).mono ?_
  rintro e' w2 ⟨⟨E', m2, d2, B, n, c, rfl, t1, t2, t3, t4⟩, hkp⟩
  rw [p3 k (Nat.le_refl _)] at t1 ⊢
  exact ⟨⟨B, n, c, rfl, t1⟩, ⟨E', m2, d2, _, t3, t4, rd_on p3⟩, ⟨A', m', d', e2, hkp.blk h4 q1, q2, q3⟩, hb.keeps hkp h3 h1, hkp.world hx hg⟩

theorem EditsO.lower {w : World} {base base' : Nat} {row : Option Nat} {xs : List Value} {e : List Spl} (h : EditsO w base row xs e) (hb : base' ≤ base) : EditsO w base' row xs e :=
  ⟨h.1, fun i hi => let ⟨B, m, d, h1, h2, h3, h4, h5, h6⟩ := h.2 i hi; ⟨B, m, d, h1, h2, h3, Own.lower h4 hb, h5, h6⟩⟩
/-- What is there behind the first reader's step. -/
def OvMid (w w' : World) (ga gr g base : Nat) (ea eb : List Spl) (k : Nat) (b : Bld) : Prop :=
  (∃ (A : Option Addr) (m d : Nat) (e : List Spl), Blk w' ga 90 #[.slice A m d] ∧ EditAt w A m d e ∧ ∀ i : Nat, k + 1 ≤ i → rdSkip i e = rdSkip i ea) ∧
      (∃ (A : Option Addr) (m d : Nat) (e : List Spl), Blk w' gr 90 #[.slice A m d] ∧ EditAt w A m d e ∧ ∀ i : Nat, k ≤ i → rdSkip i e = rdSkip i eb) ∧ BldAt w' base g b ∧ Ext w w'
set_option maxHeartbeats 1000000 in
theorem ov_snd {w w' : World} {ga gr g base k : Nat} {ea eb : List Spl} {b : Bld} (h : OvMid w w' ga gr g base ea eb k b) (hg : w.heap.size ≤ gr) (h1 : gr < base) (h3 : gr ≠ g) (h4 : gr ≠ ga) (hk : k ≤ 8192) :
    Calls Try.prog 48 #[.pointer (some ⟨gr, 0, none⟩), .int .i64 k] w' fun e' w2 => (∃ B n c, e' = .returned (.tuple #[.slice B n c, .bool (gos eb k)]) ∧ Ints w B n c (txt eb k)) ∧ OvAt w w2 ga gr g base ea eb (k + 1) b := by
  obtain ⟨⟨A', m', d', e2, q1, q2, q3⟩, ⟨A, m, d, e, p1, p2, p3⟩, hb, hx⟩ := h
  refine (at_ok p1 p2 hx hg hk).mono ?_
  rintro e' w2 ⟨⟨E', m2, d2, B, n, c, rfl, t1, t2, t3, t4⟩, hkp⟩
  rw [p3 k (Nat.le_refl _)] at t1 ⊢
  exact ⟨⟨B, n, c, rfl, t1⟩, ⟨A', m', d', e2, hkp.blk h4 q1, q2, q3⟩, ⟨E', m2, d2, _, t3, t4, rd_on p3⟩, hb.keeps hkp h3 h1, hkp.world hx hg⟩

theorem Sm.ovPut {b : Bld} {A X : Nat} (h : Sm b A X) (ea eb : List Spl) (ahead : Bool) (i : Nat) (ha : (txt ea i).length ≤ 4096) (hb : (txt eb i).length ≤ 4096) : Sm (ovPut ea eb ahead i b) (A + 4096) (X + 4096) := by
  unfold Go.Proofs.Ythphlghblmindaa.ovPut
  split
  · exact ((h.put (txt ea i)).keeps (txt eb i).length).mono (by omega) (by omega)
  · exact ((h.keeps (txt eb i).length).put (txt ea i)).mono (by omega) (by omega)
theorem Sm.ovStep {b : Bld} {A X : Nat} (h : Sm b A X) (n : Nat) (ea eb : List Spl) (ahead : Bool) (i : Nat) (ha : (txt ea i).length ≤ 4096) (hb : (txt eb i).length ≤ 4096) : Sm (ovStep n ea eb ahead i b) (A + 4097) (X + 4096) := by
  have h2 := h.ovPut ea eb ahead i ha hb
  unfold Go.Proofs.Ythphlghblmindaa.ovStep
  split
  · exact h2.mono (by omega) (by omega)
  · split
    · exact h2.drop.mono (by omega) (by omega)
    · exact h2.keep.mono (by omega) (by omega)
theorem Sm.ovB {n : Nat} {ea eb : List Spl} {ahead : Bool} (ha : ∀ i, (txt ea i).length ≤ 4096) (hb : ∀ i, (txt eb i).length ≤ 4096) : ∀ k, Sm (ovB n ea eb ahead k) (k * 4097) (k * 4096)
  | 0 => ⟨Nat.le_refl _, Nat.le_refl _, Nat.le_refl _⟩
  | k + 1 => ((Sm.ovB ha hb k).ovStep n ea eb ahead k (ha k) (hb k)).mono (by omega) (by omega)

set_option maxRecDepth 20000 in
set_option maxHeartbeats 8000000 in
theorem over_ok {ea eb : List Spl} {A B : Option Addr} {N m d q r : Nat} {ahead : Bool} {w : World} (ha : EditAt w A m d ea) (hb : EditAt w B q r eb) (ca : chkF N ea = 0) (cb : chkF N eb = 0) :
    Calls Try.prog 22 #[.int .i64 N, .slice A m d, .slice B q r, .bool ahead] w fun e' w' => (∃ O k c xs, e' = .returned (.tuple #[.slice O k c, .int .i64 0]) ∧ Own w' w.heap.size 45 3 O k c xs ∧ EditsO w' w.heap.size none xs (overF N ea eb ahead)) ∧ Ext w w' := by
  have hN : N ≤ 4096 := by have := (chkF_zero.1 ca).2.1; omega
  have LA := Lib.hid (txt_len ca)
  have LB := Lib.hid (txt_len cb)
  have HC1 := Lib.hid (check_in ha hN)
  have HA := Lib.hid ha
  have HB := Lib.hid hb
  have CA := Lib.hid ca
  have CB := Lib.hid cb
  have SM : Hid (∀ k, Sm (ovB N ea eb ahead k) (k * 4097) (k * 4096)) := Lib.hid (Sm.ovB (txt_len ca) (txt_len cb))
  clear ha hb ca cb
  go_enter Try.func22, Try.ntmps22
  go_wp2_with fail
  refine HC1.out.mono ?_
  rintro e w1 ⟨rfl, he1⟩
  rw [CA.out]
  have HC2 := Lib.hid (check_in (HB.out.ext he1) hN)
  clear HC1
  go_wp2_with fail
  refine HC2.out.mono ?_
  rintro e w2 ⟨rfl, he2⟩
  rw [CB.out]
  have hx2 := he1.trans he2
  clear HC2 he1 he2
  go_wp2_with fail
  have hst : OvAt w (((w2.alloc (.cells #[.slice A m d] 90)).alloc (.cells #[.slice B q r] 90)).alloc (.cells #[.slice none 0 0, .int .i64 0, .bool false, .int .i64 0, .int .i64 0, .slice none 0 0] 93)) w2.heap.size (w2.heap.size + 1) (w2.heap.size + 1 + 1) (w2.heap.size + 3) ea eb 0 (ovB N ea eb ahead 0) := by
    refine ⟨⟨A, m, d, ea, ?_, HA.out, fun _ _ => rfl⟩, ⟨B, q, r, eb, ?_, HB.out, fun _ _ => rfl⟩, ?_, hx2.trans (((Ext.alloc _ _).to_alloc _).to_alloc _)⟩
    · exact ((Blk.new w2 90 #[.slice A m d]).ext (Ext.alloc _ _)).ext (Ext.alloc _ _)
    · refine Blk.ext ?_ (Ext.alloc _ _)
      simpa using Blk.new (w2.alloc (.cells #[.slice A m d] 90)) 90 #[.slice B q r]
    · refine ⟨none, 0, 0, [], none, 0, 0, ?_, Own.nil _ _ _ _, EditsO.nil _ _ _, ⟨by omega, by simp⟩, fun hh => by cases hh⟩
      have := Blk.new ((w2.alloc (.cells #[.slice A m d] 90)).alloc (.cells #[.slice B q r] 90)) 93 #[.slice none 0 0, .int .i64 0, .bool false, .int .i64 0, .int .i64 0, .slice none 0 0]
      simp only [World.size_alloc] at this
      exact this
  have hw2 := hx2.hsize
  revert hst
  generalize ((w2.alloc (.cells #[.slice A m d] 90)).alloc (.cells #[.slice B q r] 90)).alloc (.cells #[.slice none 0 0, .int .i64 0, .bool false, .int .i64 0, .int .i64 0, .slice none 0 0] 93) = w3
  intro hst
  obtain ⟨ga, hga⟩ : ∃ ga, ga = w2.heap.size := ⟨_, rfl⟩
  obtain ⟨gr, hgr⟩ : ∃ gr, gr = w2.heap.size + 1 := ⟨_, rfl⟩
  obtain ⟨g, hgg⟩ : ∃ g, g = w2.heap.size + 1 + 1 := ⟨_, rfl⟩
  obtain ⟨base, hbb⟩ : ∃ base, base = w2.heap.size + 3 := ⟨_, rfl⟩
  rw [← hbb, ← hgg, ← hgr, ← hga] at hst
  rw [← hgg, ← hgr, ← hga]
  have o1 : w.heap.size ≤ ga := by omega
  have o2 : w.heap.size ≤ gr := by omega
  have o3 : w.heap.size ≤ g := by omega
  have o4 : w.heap.size ≤ base := by omega
  have o5 : ga < base := by omega
  have o6 : gr < base := by omega
  have o7 : g ≠ ga := by omega
  have o8 : g ≠ gr := by omega
  have o9 : ga ≠ gr := by omega
  clear hga hgr hgg hbb hw2 hx2
  go_loopw [42] (fun v wr => ∃ k : Nat, k ≤ N + 1 ∧ v = .int .i64 k ∧ OvAt w wr ga gr g base ea eb k (ovB N ea eb ahead k)) (fun v _ => N + 1 - (intOf v).toNat)
  case atStart => exact ⟨0, by omega, rfl, hst⟩
  case round =>
    clear hst
    obtain ⟨k, hk, rfl, hs⟩ := hrel
    by_cases hlt : k < N + 1
    · have HST : Hid (ovB N ea eb ahead (k + 1) = ovStep N ea eb ahead k (ovB N ea eb ahead k)) := Lib.hid rfl
      have hSM := Lib.hid (SM.out k)
      have hk4 : k * 4097 ≤ 4096 * 4097 := Nat.mul_le_mul_right _ (by omega)
      have hk5 : k * 4096 ≤ 4096 * 4096 := Nat.mul_le_mul_right _ (by omega)
      obtain ⟨A1, hA1⟩ : ∃ z, z = k * 4097 := ⟨_, rfl⟩
      obtain ⟨X1, hX1⟩ : ∃ z, z = k * 4096 := ⟨_, rfl⟩
      rw [← hA1] at hSM hk4
      rw [← hX1] at hSM hk5
      have LA1 := LA.out k
      have LB1 := LB.out k
      have HO1 := Lib.hid (ov_fst hs o1 o5 o7.symm o9 (by omega))
      clear hs hA1 hX1
      revert HST hSM HO1
      generalize ovB N ea eb ahead k = b0
      intro HST hSM HO1
      go_wp2_with fail
      refine HO1.out.mono ?_
      rintro e w5 ⟨⟨TA, na, ca, rfl, hta⟩, hmid⟩
      obtain ⟨xa, hxa⟩ : ∃ xa, xa = gos ea k := ⟨_, rfl⟩
      rw [← hxa]
      have HXA := Lib.hid hxa
      clear hxa
      have HO2 := Lib.hid (ov_snd (k := k) (ea := ea) (eb := eb) (base := base) hmid o2 o6 o8.symm o9.symm (by omega))
      clear HO1 hmid
      go_wp2_with fail
      refine HO2.out.mono ?_
      rintro e w6 ⟨⟨TB, nb, cb, rfl, htb⟩, hs⟩
      obtain ⟨xb, hxb⟩ : ∃ xb, xb = gos eb k := ⟨_, rfl⟩
      rw [← hxb]
      have hna : (txt ea k).length = na := hta.len
      have hnb : (txt eb k).length = nb := htb.len
      have hnc := htb.ncap
      have hcm := htb.nmax
      have hac := hta.ncap
      have ham := hta.nmax
      unfold maxLen at hcm ham
      have HTA := Lib.hid hta
      have HXB := Lib.hid hxb
      clear HO2 hta htb hxb
      cases ahead with
      | true =>
        have HP := Lib.hid (put_ok hs.bld HTA.out hs.wld o3 (by have := hSM.out.begin.2.2; omega))
        go_wp2_with fail
        refine HP.out.mono ?_
        rintro e w7 ⟨rfl, hb7, hk7⟩
        have hs7 := hs.step hb7 hk7 o5 o6 o7 o8 o3 o4
        have HSP := Lib.hid (hSM.out.put (txt ea k))
        clear HP hs hb7 hk7
        go_wp2_with fail
        go_loopw [63] (fun v wr => ∃ j : Nat, j ≤ nb ∧ v = .int .i64 j ∧ OvAt w wr ga gr g base ea eb (k + 1) ((b0.put (txt ea k)).keeps j)) (fun v _ => nb - (intOf v).toNat)
        case atStart => exact ⟨0, by omega, rfl, hs7⟩
        case round =>
          clear hs7
          obtain ⟨j, hj, rfl, hs⟩ := hrel
          by_cases hjl : j < nb
          · have hq := HSP.out.keeps j
            have HKP := Lib.hid (keep_ok hs.bld hs.wld o3 (by have := hq.2.1; omega) (by have := hq.1; have := hq.2.1; omega))
            clear hq
            go_wp2_with fail
            refine HKP.out.mono ?_
            rintro e w8 ⟨rfl, hb8, hk8⟩
            have hs8 := hs.step hb8 hk8 o5 o6 o7 o8 o3 o4
            clear HKP hs hb8 hk8
            go_wp2_with fail
            go_roundw
            case rel => exact ⟨j + 1, by omega, by go_num, hs8⟩
            case measure => simp [intOf]; omega
          · obtain rfl : j = nb := by omega
            have HPE : Hid (ovPut ea eb true k b0 = (b0.put (txt ea k)).keeps j) := Lib.hid (by unfold ovPut; rw [if_pos rfl, hnb])
            rw [← HPE.out] at hs
            have hq := hSM.out.ovPut ea eb true k LA1 LB1
            by_cases hkN : k = N
            · have bN : ((k : Int) == N) = true := by simp [hkN]
              have HS2 : Hid (ovB N ea eb true (k + 1) = ovPut ea eb true k b0) := Lib.hid (by rw [HST.out]; unfold ovStep; rw [if_pos (.inl hkN)])
              clear hkN hq
              go_wp2_with fail
              go_roundw
              case rel => exact ⟨k + 1, by omega, by go_num, by rw [HS2.out]; exact hs⟩
              case measure => simp [intOf]; omega
            · have bN : ((k : Int) == N) = false := by simp; omega
              cases xb with
              | true =>
                have HS2 : Hid (ovB N ea eb true (k + 1) = ovPut ea eb true k b0) := Lib.hid (by rw [HST.out]; unfold ovStep; rw [if_pos (.inr HXB.out.symm)])
                clear hkN hq
                go_wp2_with fail
                go_roundw
                case rel => exact ⟨k + 1, by omega, by go_num, by rw [HS2.out]; exact hs⟩
                case measure => simp [intOf]; omega
              | false =>
                cases xa with
                | true =>
                  have HS2 : Hid (ovB N ea eb true (k + 1) = (ovPut ea eb true k b0).drop) := Lib.hid (by rw [HST.out]; unfold ovStep; rw [if_neg (by rw [← HXB.out]; simp [hkN]), if_pos HXA.out.symm])
                  have HDP := Lib.hid (drop_ok hs.bld (by have := hq.2.1; omega))
                  clear hq hkN
                  go_wp2_with fail
                  refine HDP.out.mono ?_
                  rintro e w9 ⟨rfl, hb9, hk9⟩
                  have hs9 := hs.step hb9 hk9 o5 o6 o7 o8 o3 o4
                  clear HDP hs hb9 hk9
                  go_wp2_with fail
                  go_roundw
                  case rel => exact ⟨k + 1, by omega, by go_num, by rw [HS2.out]; exact hs9⟩
                  case measure => simp [intOf]; omega
                | false =>
                  have HS2 : Hid (ovB N ea eb true (k + 1) = (ovPut ea eb true k b0).keep) := Lib.hid (by rw [HST.out]; unfold ovStep; rw [if_neg (by rw [← HXB.out]; simp [hkN]), if_neg (by rw [← HXA.out]; decide)])
                  have HDP := Lib.hid (keep_ok hs.bld hs.wld o3 (by have := hq.2.1; omega) (by have := hq.1; have := hq.2.1; omega))
                  clear hq hkN
                  go_wp2_with fail
                  refine HDP.out.mono ?_
                  rintro e w9 ⟨rfl, hb9, hk9⟩
                  have hs9 := hs.step hb9 hk9 o5 o6 o7 o8 o3 o4
                  clear HDP hs hb9 hk9
                  go_wp2_with fail
                  go_roundw
                  case rel => exact ⟨k + 1, by omega, by go_num, by rw [HS2.out]; exact hs9⟩
                  case measure => simp [intOf]; omega
      | false =>
        go_wp2_with fail
        go_loopw [63] (fun v wr => ∃ j : Nat, j ≤ nb ∧ v = .int .i64 j ∧ OvAt w wr ga gr g base ea eb (k + 1) (b0.keeps j)) (fun v _ => nb - (intOf v).toNat)
        case atStart => exact ⟨0, by omega, rfl, hs⟩
        case round =>
          clear hs
          obtain ⟨j, hj, rfl, hs⟩ := hrel
          by_cases hjl : j < nb
          · have hq := hSM.out.keeps j
            have HKP := Lib.hid (keep_ok hs.bld hs.wld o3 (by have := hq.2.1; omega) (by have := hq.1; have := hq.2.1; omega))
            clear hq
            go_wp2_with fail
            refine HKP.out.mono ?_
            rintro e w8 ⟨rfl, hb8, hk8⟩
            have hs8 := hs.step hb8 hk8 o5 o6 o7 o8 o3 o4
            clear HKP hs hb8 hk8
            go_wp2_with fail
            go_roundw
            case rel => exact ⟨j + 1, by omega, by go_num, hs8⟩
            case measure => simp [intOf]; omega
          · obtain rfl : j = nb := by omega
            have HPE : Hid (ovPut ea eb false k b0 = (b0.keeps j).put (txt ea k)) := Lib.hid (by unfold ovPut; rw [if_neg (by decide), hnb])
            have HP := Lib.hid (put_ok hs.bld HTA.out hs.wld o3 (by have := (hSM.out.keeps j).begin.2.2; omega))
            go_wp2_with fail
            refine HP.out.mono ?_
            rintro e w7 ⟨rfl, hb7, hk7⟩
            have hs7 := hs.step hb7 hk7 o5 o6 o7 o8 o3 o4
            clear HP hs hb7 hk7
            rw [← HPE.out] at hs7
            have hs := hs7
            clear hs7
            have hq := hSM.out.ovPut ea eb false k LA1 LB1
            by_cases hkN : k = N
            · have bN : ((k : Int) == N) = true := by simp [hkN]
              have HS2 : Hid (ovB N ea eb false (k + 1) = ovPut ea eb false k b0) := Lib.hid (by rw [HST.out]; unfold ovStep; rw [if_pos (.inl hkN)])
              clear hkN hq
              go_wp2_with fail
              go_roundw
              case rel => exact ⟨k + 1, by omega, by go_num, by rw [HS2.out]; exact hs⟩
              case measure => simp [intOf]; omega
            · have bN : ((k : Int) == N) = false := by simp; omega
              cases xb with
              | true =>
                have HS2 : Hid (ovB N ea eb false (k + 1) = ovPut ea eb false k b0) := Lib.hid (by rw [HST.out]; unfold ovStep; rw [if_pos (.inr HXB.out.symm)])
                clear hkN hq
                go_wp2_with fail
                go_roundw
                case rel => exact ⟨k + 1, by omega, by go_num, by rw [HS2.out]; exact hs⟩
                case measure => simp [intOf]; omega
              | false =>
                cases xa with
                | true =>
                  have HS2 : Hid (ovB N ea eb false (k + 1) = (ovPut ea eb false k b0).drop) := Lib.hid (by rw [HST.out]; unfold ovStep; rw [if_neg (by rw [← HXB.out]; simp [hkN]), if_pos HXA.out.symm])
                  have HDP := Lib.hid (drop_ok hs.bld (by have := hq.2.1; omega))
                  clear hq hkN
                  go_wp2_with fail
                  refine HDP.out.mono ?_
                  rintro e w9 ⟨rfl, hb9, hk9⟩
                  have hs9 := hs.step hb9 hk9 o5 o6 o7 o8 o3 o4
                  clear HDP hs hb9 hk9
                  go_wp2_with fail
                  go_roundw
                  case rel => exact ⟨k + 1, by omega, by go_num, by rw [HS2.out]; exact hs9⟩
                  case measure => simp [intOf]; omega
                | false =>
                  have HS2 : Hid (ovB N ea eb false (k + 1) = (ovPut ea eb false k b0).keep) := Lib.hid (by rw [HST.out]; unfold ovStep; rw [if_neg (by rw [← HXB.out]; simp [hkN]), if_neg (by rw [← HXA.out]; decide)])
                  have HDP := Lib.hid (keep_ok hs.bld hs.wld o3 (by have := hq.2.1; omega) (by have := hq.1; have := hq.2.1; omega))
                  clear hq hkN
                  go_wp2_with fail
                  refine HDP.out.mono ?_
                  rintro e w9 ⟨rfl, hb9, hk9⟩
                  have hs9 := hs.step hb9 hk9 o5 o6 o7 o8 o3 o4
                  clear HDP hs hb9 hk9
                  go_wp2_with fail
                  go_roundw
                  case rel => exact ⟨k + 1, by omega, by go_num, by rw [HS2.out]; exact hs9⟩
                  case measure => simp [intOf]; omega
    · obtain rfl : k = N + 1 := by omega
      have hq := SM.out (N + 1)
      have hk4 : (N + 1) * 4097 ≤ 4097 * 4097 := Nat.mul_le_mul_right _ (by omega)
      have HKP := Lib.hid (keep_ok hs.bld hs.wld o3 (by have := hq.2.1; omega) (by have := hq.1; have := hq.2.1; omega))
      clear hq
      go_wp2_with fail
      refine HKP.out.mono ?_
      rintro e w8 ⟨rfl, hb8, hk8⟩
      have HX8 := Lib.hid (hk8.world hs.wld o3 o4)
      have HF : Hid ((ovB N ea eb ahead (N + 1)).keep.out = overF N ea eb ahead) := Lib.hid rfl
      obtain ⟨O, kk, c, xs, X, y, cx, h1, h2, h3, h4, h5⟩ := hb8
      have k0 := h1.cell 0
      simp only [List.getElem?_toArray, List.getElem?_cons_zero] at k0
      rw [HF.out] at h3
      have HOW := Lib.hid (Own.lower h2 o4)
      have HED := Lib.hid (EditsO.lower h3.toNone o4)
      clear HKP hs hk8 h1 h2 h3 h5
      go_wp2_with fail
      go_ret2
      exact ⟨⟨O, kk, c, xs, rfl, HOW.out, HED.out⟩, HX8.out⟩
end Go.Proofs.Ythphlghblmindaa
