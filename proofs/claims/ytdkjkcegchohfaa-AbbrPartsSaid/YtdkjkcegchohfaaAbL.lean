/-
  The links.
-/
import Derived.Test.YtdkjkcegchohfaaAbU
import Derived.Test.YtdkjkcegchohfaaAbB
import Derived.Test.YtdkjkcegchohfaaAbV
import Derived.Deep.LoopGhost
namespace Go.Proofs.Ytdkjkcegchohfaa
open Go.RowKit Go.Maps
set_option linter.unusedVariables false
set_option linter.unusedSimpArgs false
attribute [local go_sem] Oper.semAt_some

/-- All the machine's blocks lie below H. -/
def AbLow (t : AC) (x : AbA) (H : Nat) : Prop :=
  x.g < H ∧ x.r < H ∧ (∀ k, (Value.slice x.S x.Sn x.Sc).ownBlock = some k → k < H) ∧ ∀ i, i < t.N → (x.ns i).m < H ∧ ∀ k, (x.ns i).row.ownBlock = some k → k < H
section
variable {w w' : World} {b0 K H : Nat} {t : AC} {sz : List Int} {x : AbA} {N : List Nat}
theorem AbIs.low (h : AbIs w b0 K t sz x) : AbLow t x w.heap.size :=
  ⟨h.blk.lt, h.r0.2, fun k hk => (Own.blk h.siz k hk).2, fun i hi => ⟨(h.map i hi).lt, fun k hk => (Own.blk (h.ends i hi) k hk).2⟩⟩
theorem AbIs.win (h : AbIs w b0 K t sz x) (hl : AbLow t x H) (he : Eqv N w w') (hN : ∀ k, k ∈ N → H ≤ k) : AbIs w' b0 K t sz x := by
  have hm : ∀ k, k < H → k ∉ N := fun k hk hn => by have := hN k hn; omega
  refine ⟨h.pos, h.max, h.cnt, h.g0, h.blk.eqv he (hm _ hl.1), Own.eqv h.row he (fun k hk => hm k ?_), Own.eqv h.siz he (fun k hk => hm k (hl.2.2.1 k hk)), h.m0, fun i hi => (h.map i hi).eqv he (hm _ (hl.2.2.2 i hi).1), fun i hi => Own.eqv (h.ends i hi) he (fun k hk => hm k ((hl.2.2.2 i hi).2 k hk)), h.minj, h.einj, h.esiz⟩
  have : (Value.slice (some ⟨x.r, 0, none⟩) t.N x.c).ownBlock = some x.r := rfl
  rw [this] at hk
  injection hk with hk
  rw [← hk]; exact hl.2.1
theorem AbLow.mono {H' : Nat} (h : AbLow t x H) (hh : H ≤ H') : AbLow t x H' :=
  ⟨Nat.lt_of_lt_of_le h.1 hh, Nat.lt_of_lt_of_le h.2.1 hh, fun k hk => Nat.lt_of_lt_of_le (h.2.2.1 k hk) hh, fun i hi => ⟨Nat.lt_of_lt_of_le (h.2.2.2 i hi).1 hh, fun k hk => Nat.lt_of_lt_of_le ((h.2.2.2 i hi).2 k hk) hh⟩⟩
end
theorem key_sameA (d k : Int) : (Lit.int .i64 d).sameKey (.int .i64 k) = decide (d = k) := by
  by_cases h : d = k
  · subst h
    rw [WideAt.sameKey_self (show WideAt.IsKeyLit (.int .i64 d) from trivial)]; simp
  · rw [Maps.sameKey_ne (fun e => h (by injection e))]; simp [h]
def natI (l : List Nat) : List Int := l.map fun k : Nat => (k : Int)
theorem RangesO.nowA {w : World} {b r n : Nat} {f : Int → Option Value} {left : Lit → Bool} {cnt : Nat} (h : RangesO w b r n f left cnt) : RangesO w b r n f left (w.rangeLeft b r) := by
  rw [h.left_eq]; exact h
theorem queue_ne {w : World} {q k : Nat} (h : tyB w q = 3 + 1 ∨ w.heap.size ≤ q) (hk : tyB w k = 0) (hl : k < w.heap.size) : k ≠ q := fun e => by
  rcases h with h | h
  · rw [← e, hk] at h; cases h
  · omega
theorem natI_app (a b : List Nat) : natI (a ++ b) = natI a ++ natI b := by simp [natI]
theorem nx_of {t : AC} {h : Nat} {c : Int} {v : Value} (hv : nxF t h c = some v) : ∃ j : Nat, t.nx h c = some j ∧ v = .int .i64 j := by
  unfold nxF at hv
  cases hk : t.nx h c with
  | none => rw [hk] at hv; cases hv
  | some j => rw [hk] at hv; injection hv with hv; exact ⟨j, rfl, hv.symm⟩
theorem RangesO.iterA {w : World} {b r n : Nat} {f : Int → Option Value} {left : Lit → Bool} {cnt : Nat} (h : RangesO w b r n f left cnt) : ∃ since seen c0, w.heap[r]? = some (.mapIter (some b) since seen c0) := by
  obtain ⟨D, ⟨es, clock, since, seen, c0, e1, F, hs, hD, e2, rest⟩, h2⟩ := h
  exact ⟨since, seen, c0, e2⟩
/-- A loop over a map stays while a row of the call's own grows. -/
theorem RangesO.ity {w : World} {b r n : Nat} {f : Int → Option Value} {left : Lit → Bool} {cnt : Nat} (h : RangesO w b r n f left cnt) : tyB w r = 0 := by
  obtain ⟨a1, a2, a3, hc⟩ := h.iterA
  unfold tyB; rw [hc]
theorem RangesO.eqvR {w w' : World} {b r n : Nat} {f : Int → Option Value} {left : Lit → Bool} {cnt : Nat} {N : List Nat} (h : RangesO w b r n f left cnt) (he : Eqv N w w') (h1 : b ∉ N) (h2 : r ∉ N) : RangesO w' b r n f left cnt :=
  h.at (he.2 b h.map.lt h1) (he.2 r h.lt h2)

set_option maxRecDepth 20000 in
set_option maxHeartbeats 2000000 in
theorem abLink_ok {w0 w : World} {K : Nat} {t : AC} {ws : List (List Int)} {sz : List Int} {x : AbA} (ho : t.Ok ws) (h : AbIs w w0.heap.size K t sz x) (hz : FallZ t x) (hkw : KeysWf t) (he : Ext w0 w) :
    Calls Try.prog 37 #[.pointer (some ⟨x.g, 0, none⟩)] w fun e w' => e = .returned (.tuple #[]) ∧ ∃ x', AbIs w' w0.heap.size K t sz x' ∧ x'.g = x.g ∧ (∀ i, i < t.N → i ≠ 0 → FallAt t x'.fall i) ∧ Ext w0 w' := by
  obtain ⟨j0, hj0, hy0, hy1, hy2⟩ := info_parts info_int
  have HO := Lib.hid ho
  have HKW := Lib.hid hkw
  have hmax := h.max
  obtain ⟨H, hH⟩ : ∃ H, H = w.heap.size := ⟨_, rfl⟩
  have hH0 : w0.heap.size ≤ H := by rw [hH]; exact he.hsize
  have HL0 : Hid (AbLow t x H) := Lib.hid (by rw [hH]; exact h.low)
  have HB0 : Hid (Bfs t x.fall [] [0] ∧ ∀ j, j < t.N → j ∉ [] ++ [0] → x.fall j = 0) := Lib.hid ⟨Bfs.start ho, fun j hj _ => hz j hj⟩
  have HA0 := Lib.hid (h.ext (Ext.alloc w (.cells #[.int .i64 0] 3)))
  have HQ0 : Hid (QRow (w.alloc (.cells #[.int .i64 0] 3)) H (some ⟨w.heap.size, 0, none⟩) 1 1 (natI [0])) := Lib.hid (QRow.lit w 0 (by omega))
  have HE0 := Lib.hid (he.to_alloc (.cells #[.int .i64 0] 3))
  have hH1 : Hid (H ≤ (w.alloc (.cells #[.int .i64 0] 3)).heap.size) := Lib.hid (by simp; omega)
  clear ho hkw h hz he
  go_enter Try.func37, Try.ntmps37
  go_wp2_with fail
  go_loopg [2] (t.N + 1) (fun gk qv wr => ∃ A n c D Q x', qv = .slice A n c ∧ x'.g = x.g ∧ D.length + gk = t.N + 1 ∧ H ≤ wr.heap.size ∧ Hid (AbLow t x' H) ∧ Hid (AbIs wr w0.heap.size K t sz x') ∧ Hid (QRow wr H A n c (natI Q)) ∧ Hid (Bfs t x'.fall D Q ∧ ∀ j, j < t.N → j ∉ D ++ Q → x'.fall j = 0) ∧ Hid (Ext w0 wr))
  case atStart => exact ⟨_, _, _, [], [0], x, rfl, rfl, by simp, hH1.out, HL0, HA0, HQ0, HB0, HE0⟩
  case round =>
    clear HL0 HB0 HA0 HQ0 HE0 hH1 hH
    obtain ⟨A, n, c, D, Q, x', rfl, hg, hD, hHr, HL, HA, HQ, HB, HE⟩ := hrel
    have hQl := HQ.out.1
    cases Q with
    | nil =>
      have hn0 : n = 0 := by have h1 : 0 = n := hQl; omega
      subst hn0
      go_wp2_with fail
      go_end0
      exact ⟨rfl, x', HA.out, hg, HB.out.1.done HO.out, HE.out⟩
    | cons h rest =>
      have hnr : n = rest.length + 1 := by simp [natI] at hQl; omega
      have hhN : h < t.N := HB.out.1.lt h (by simp)
      have hrN : rest.length ≤ t.N := by
        have h1 := HB.out.1.le
        have h2 := nodup_lt t.N h1.1 h1.2
        simp at h2; omega
      have hDN : D.length + 1 ≤ t.N := by
        have h1 := HB.out.1.le
        have h2 := nodup_lt t.N h1.1 h1.2
        simp at h2; omega
      have hnc : n ≤ c := HQ.out.2.1
      have hcm : c ≤ maxLen := HQ.out.2.2.1
      obtain ⟨gq, off, rfl, hq0⟩ := QRow.head HQ.out
      have hq1 : 0 < n := by omega
      obtain ⟨A1, hA1⟩ : ∃ A1, (if c = 1 then some (⟨gq, off, none⟩ : Addr) else some ⟨gq, off + 1, none⟩) = A1 := ⟨_, rfl⟩
      have HT : Hid (QRow wr H A1 (n - 1) (c - 1) (natI rest)) := Lib.hid (by rw [← hA1]; exact QRow.tail HQ.out)
      have hn5 : n ≤ 6000 := by omega
      have HNR := Lib.hid hnr
      have c0 := HA.out.c0
      rw [hg] at c0
      have hm := HA.out.nm hhN
      have hmap := HA.out.map h hhN
      unfold maxLen at hcm
      clear hQl hnr
      go_wp2_with (at_range; refine wpList_range_o _ rfl _ _ _ rfl Try.underlying70 rfl hmap ?_; intro w3 left0 R3 hleft0 hg3 hs3)
      generalize wr = wc at *
      have hHc := hHr
      have hrt : tyB w3 wc.heap.size = 0 := R3.ity
      have hE3 : Eqv [] wc w3 := Eqv.grown hg3 (fun k hk => by cases hk)
      have HA3 := Lib.hid (HA.out.win HL.out hE3 (fun k hk => by simp at hk))
      have HQ3 := Lib.hid (HT.out.eqv hE3 (fun k hk => by simp at hk))
      have HE3 : Hid (Ext w0 w3) := Lib.hid (Below.grown HE.out hg3 HE.out.hsize (fun j hj => by cases hj))
      have HI3 : Hid (Bfi t x'.fall D h rest [] (fun k => left0 (.int .i64 k))) := Lib.hid (Bfi.start HB.out.1 HB.out.2 (fun d j hj => by
        show left0 (.int .i64 d) = true
        rw [hleft0 d (HKW.out h d j hj)]
        unfold nxF; rw [hj]; rfl))
      obtain ⟨m0, hm0⟩ : ∃ m0, m0 = (x'.ns h).m := ⟨_, rfl⟩
      rw [← hm0] at R3
      have hHr3 : H ≤ w3.heap.size := by omega
      clear hleft0 hg3 hE3 hmap hm c0 hq0 HA HQ HT HE HB hrt
      go_loopw [2] (fun qv wr => ∃ A n c ks x'' left, qv = .slice A n c ∧ x''.g = x.g ∧ (x''.ns h).m = m0 ∧ Hid (n = rest.length + ks.length) ∧ RangesO wr m0 wc.heap.size K (nxF t h) left (wr.rangeLeft m0 wc.heap.size) ∧ H ≤ wr.heap.size ∧ Hid (AbLow t x'' H) ∧ Hid (AbIs wr w0.heap.size K t sz x'') ∧ Hid (QRow wr H A n c (natI (rest ++ ks))) ∧ Hid (Bfi t x''.fall D h rest ks (fun k => left (.int .i64 k))) ∧ Hid (Ext w0 wr)) (fun _ wr => wr.rangeLeft m0 wc.heap.size)
      case atStart => exact ⟨A1, n - 1, c - 1, [], x', left0, rfl, hg, hm0.symm, Lib.hid (by have := HNR.out; simp; omega), R3, hHr3, HL, HA3, by simpa using HQ3, HI3, HE3⟩
      case round =>
        clear R3 HA3 HQ3 HI3 HE3 hHr3 hA1 HL
        obtain ⟨A', n', c', ks, x'', left, rfl, hg, hm2, HNN, kR, hHr, HL, HA, HQ, HI, HE⟩ := hrel
        go_upto_region 7 with (at_next; refine wpList_next_o _ rfl _ rfl rfl kR ?_ ?_; intro hz0 hl0; rotate_left; intro y v w5 cnt5 hwy hly hfy hR5 hlt5 hg5 hs5 hen; obtain ⟨j, hkj, rfl⟩ := nx_of hfy; rotate_left)
        · go_roundg (gk - 1)
          case measure => omega
          case rel =>
            exact ⟨A', _, c', h :: D, rest ++ ks, x'', rfl, hg, by simp; omega, hHr, HL, HA, HQ, Lib.hid (HI.out.fin HO.out (fun d => hl0 _)), HE⟩
        · have hrt : tyB wr wc.heap.size = 0 := kR.ity
          have hE5 : Eqv [wc.heap.size] wr w5 := Eqv.grown hg5 (fun k hk => by injection hk with hk; simp [hk])
          have HA5 := Lib.hid (HA.out.win HL.out hE5 (fun k hk => by rw [List.mem_singleton.1 hk]; exact hHc))
          have HQ5 := Lib.hid (HQ.out.eqv hE5 (fun k hk => .inr (by rw [List.mem_singleton.1 hk, hrt]; decide)))
          have HE5 : Hid (Ext w0 w5) := Lib.hid (Below.grown HE.out hg5 HE.out.hsize (fun k hk => by injection hk with hk; omega))
          have hHr5 : H ≤ w5.heap.size := by omega
          have hjN : j < t.N := ((HO.out.nxt h y j).1 hkj).2.1
          have hn1 : n' ≤ 100000 := by
            have h1 := nodup_lt t.N HI.out.nodup (fun z hz => by
              obtain ⟨d, h1, _⟩ := (HI.out.mem z).1 hz
              exact ((HO.out.nxt h d z).1 h1).2.1)
            have := HNN.out
            omega
          have HKJ := Lib.hid hkj
          have HLY := Lib.hid hly
          have HR5 := Lib.hid (⟨hR5, hlt5, hwy⟩ : _ ∧ _ ∧ _)
          clear hs5 hs3 hen hkj hly hR5 hlt5 hfy hg5 hE5 hrt HA HQ HE kR
          by_cases hh0 : h = 0
          · have hb : ((h : Int) != 0) = false := by simp; omega
            have HH := Lib.hid hh0
            clear hh0
            go_wp2_with (at_builtin; refine wpList_queue rfl (.tmp 49) (.tmp 51) 23 rfl Try.underlying23 hj0 hy0 hy1 hy2 rfl HQ5.out hHr5 hn1 (j : Int) rfl ?_; intro A2 c2 w7 q k1 k2 k3 k4 k5 k6 k7)
            go_roundw
            case rel =>
              have hR := HR5.out.1.eqvR k2 (fun hm => (queue_ne k4 HR5.out.1.map.ty HR5.out.1.map.lt) (List.mem_singleton.1 hm)) (fun hm => (queue_ne k4 HR5.out.1.ity HR5.out.1.lt) (List.mem_singleton.1 hm))
              refine ⟨A2, n' + 1, c2, ks ++ [j], x'', _, rfl, hg, hm2, Lib.hid (by simp; have := HNN.out; omega), hR.nowA, ?_, HL, Lib.hid (HA5.out.win HL.out k2 (fun k hk => by rw [List.mem_singleton.1 hk]; exact k3)), Lib.hid (by rw [← List.append_assoc, natI_app]; exact k1), Lib.hid (by have e := HH.out; subst e; exact HI.out.kid_root HO.out HKJ.out HLY.out (fun d => by rw [key_sameA])), Lib.hid ⟨k5.trans HE5.out.os, k6.trans HE5.out.tape, k7.trans HE5.out.output, Nat.le_trans HE5.out.hsize k2.1, fun k hk => ?_⟩⟩
              · have := k2.1; omega
              · rw [k2.2 k (Nat.lt_of_lt_of_le hk HE5.out.hsize) (fun hm => by have := List.mem_singleton.1 hm; omega)]
                exact Below.block HE5.out k hk
            case measure =>
              have hR := HR5.out.1.eqvR k2 (fun hm => (queue_ne k4 HR5.out.1.map.ty HR5.out.1.map.lt) (List.mem_singleton.1 hm)) (fun hm => (queue_ne k4 HR5.out.1.ity HR5.out.1.lt) (List.mem_singleton.1 hm))
              rw [hR.left_eq]; exact HR5.out.2.1
          · have hb : ((h : Int) != 0) = true := by simp; omega
            have HH := Lib.hid hh0
            clear hh0
            have HF := Lib.hid (HI.out.fallsTo HO.out HH.out)
            have HAd := Lib.hid (HA5.out.ext (Ext.drew w5))
            have c5 : w5.drew.cell? ⟨x.g, 0, none⟩ = some (.slice (some ⟨x''.r, 0, none⟩) t.N x''.c) := by rw [← hg]; exact HAd.out.c0
            have f5 : w5.drew.cell? ⟨x''.r, h * 3 + 1, none⟩ = some (.int .i64 (x''.fall h)) := HAd.out.nf hhN
            have g5 : w5.drew.cell? ⟨x''.r, j * 3 + 1, none⟩ = some (.int .i64 (x''.fall j)) := HAd.out.nf hjN
            have z5 : w5.drew.frozen? ⟨x''.r, j * 3 + 1, none⟩ = false := World.ownsRow.frozenAt HAd.out.row (j * 3 + 1)
            have hgr : x''.r ≠ x.g := by rw [← hg]; exact ne_ty HA5.out.rty HA5.out.blk.ty (by decide)
            have hhj : h ≠ j := fun e => by have := HO.out.up h y j HKJ.out; omega
            have HC := Lib.hid (abStep_ok HO.out HAd.out HF.out.1 HF.out.2 HR5.out.2.2)
            rw [hg] at HC
            go_wp2_with fail
            refine wp_region_held_drew (S := fun w' => w'.cell? ⟨x.g, 0, none⟩ = some (.slice (some ⟨x''.r, 0, none⟩) t.N x''.c) ∧ w'.cell? ⟨x''.r, h * 3 + 1, none⟩ = some (.int .i64 (x''.fall h))) (by kernel_rfl) ⟨c5, f5⟩ (fun hHeld => ?_)
            refine wpAnyH_take (i := 0) (v := (.pointer (some ⟨x.g, 0, none⟩))) rfl (by kernel_rfl) (by kernel_rfl) (by kernel_rfl) (fun _ _ _ h => h) (Or.inl ⟨by rfl, by (intro w hSw; obtain ⟨q1, q2⟩ := hSw; go_simp)⟩) hHeld ?_
            try simp only [List.getElem_toArray, List.getElem_cons_zero, List.getElem_cons_succ, Act.put, List.setIfInBounds_toArray, List.set_cons_zero, List.set_cons_succ]
            refine wpAnyH_take (i := 1) (v := (.pointer (some ⟨x.g, 0, none⟩))) rfl (by kernel_rfl) (by kernel_rfl) (by kernel_rfl) (fun _ _ _ h => h) (Or.inl ⟨by rfl, by (intro w hSw; obtain ⟨q1, q2⟩ := hSw; go_simp)⟩) hHeld ?_
            try simp only [List.getElem_toArray, List.getElem_cons_zero, List.getElem_cons_succ, Act.put, List.setIfInBounds_toArray, List.set_cons_zero, List.set_cons_succ]
            refine wpAnyH_take (i := 2) (v := (.pointer (some ⟨x.g, 0, none⟩))) rfl (by kernel_rfl) (by kernel_rfl) (by kernel_rfl) (fun _ _ _ h => h) (Or.inl ⟨by rfl, by (intro w hSw; obtain ⟨q1, q2⟩ := hSw; go_simp)⟩) hHeld ?_
            try simp only [List.getElem_toArray, List.getElem_cons_zero, List.getElem_cons_succ, Act.put, List.setIfInBounds_toArray, List.set_cons_zero, List.set_cons_succ]
            refine wpAnyH_take (i := 3) (v := (.slice (some ⟨x''.r, 0, none⟩) t.N x''.c)) rfl (by kernel_rfl) (by kernel_rfl) (by kernel_rfl) (fun _ _ _ h => h) (Or.inl ⟨by rfl, by (intro w hSw; obtain ⟨q1, q2⟩ := hSw; go_simp)⟩) hHeld ?_
            try simp only [List.getElem_toArray, List.getElem_cons_zero, List.getElem_cons_succ, Act.put, List.setIfInBounds_toArray, List.set_cons_zero, List.set_cons_succ]
            refine wpAnyH_take (i := 4) (v := (.int .i64 j)) rfl (by kernel_rfl) (by kernel_rfl) (by kernel_rfl) (fun _ _ _ h => h) (Or.inl ⟨by rfl, by (intro w hSw; obtain ⟨q1, q2⟩ := hSw; go_simp)⟩) hHeld ?_
            try simp only [List.getElem_toArray, List.getElem_cons_zero, List.getElem_cons_succ, Act.put, List.setIfInBounds_toArray, List.set_cons_zero, List.set_cons_succ]
            refine wpAnyH_take (i := 5) (v := (.pointer (some ⟨x.g, 0, none⟩))) rfl (by kernel_rfl) (by kernel_rfl) (by kernel_rfl) (fun _ _ _ h => h) (Or.inl ⟨by rfl, by (intro w hSw; obtain ⟨q1, q2⟩ := hSw; go_simp)⟩) hHeld ?_
            try simp only [List.getElem_toArray, List.getElem_cons_zero, List.getElem_cons_succ, Act.put, List.setIfInBounds_toArray, List.set_cons_zero, List.set_cons_succ]
            refine wpAnyH_take (i := 6) (v := (.pointer (some ⟨x.g, 0, none⟩))) rfl (by kernel_rfl) (by kernel_rfl) (by kernel_rfl) (fun _ _ _ h => h) (Or.inl ⟨by rfl, by (intro w hSw; obtain ⟨q1, q2⟩ := hSw; go_simp)⟩) hHeld ?_
            try simp only [List.getElem_toArray, List.getElem_cons_zero, List.getElem_cons_succ, Act.put, List.setIfInBounds_toArray, List.set_cons_zero, List.set_cons_succ]
            refine wpAnyH_take (i := 7) (v := (.pointer (some ⟨x.g, 0, none⟩))) rfl (by kernel_rfl) (by kernel_rfl) (by kernel_rfl) (fun _ _ _ h => h) (Or.inl ⟨by rfl, by (intro w hSw; obtain ⟨q1, q2⟩ := hSw; go_simp)⟩) hHeld ?_
            try simp only [List.getElem_toArray, List.getElem_cons_zero, List.getElem_cons_succ, Act.put, List.setIfInBounds_toArray, List.set_cons_zero, List.set_cons_succ]
            refine wpAnyH_take (i := 8) (v := (.pointer (some ⟨x.g, 0, none⟩))) rfl (by kernel_rfl) (by kernel_rfl) (by kernel_rfl) (fun _ _ _ h => h) (Or.inl ⟨by rfl, by (intro w hSw; obtain ⟨q1, q2⟩ := hSw; go_simp)⟩) hHeld ?_
            try simp only [List.getElem_toArray, List.getElem_cons_zero, List.getElem_cons_succ, Act.put, List.setIfInBounds_toArray, List.set_cons_zero, List.set_cons_succ]
            refine wpAnyH_take (i := 9) (v := (.slice (some ⟨x''.r, 0, none⟩) t.N x''.c)) rfl (by kernel_rfl) (by kernel_rfl) (by kernel_rfl) (fun _ _ _ h => h) (Or.inl ⟨by rfl, by (intro w hSw; obtain ⟨q1, q2⟩ := hSw; go_simp)⟩) hHeld ?_
            try simp only [List.getElem_toArray, List.getElem_cons_zero, List.getElem_cons_succ, Act.put, List.setIfInBounds_toArray, List.set_cons_zero, List.set_cons_succ]
            refine wpAnyH_take (i := 10) (v := (.int .i64 h)) rfl (by kernel_rfl) (by kernel_rfl) (by kernel_rfl) (fun _ _ _ h => h) (Or.inl ⟨by rfl, by (intro w hSw; obtain ⟨q1, q2⟩ := hSw; go_simp)⟩) hHeld ?_
            try simp only [List.getElem_toArray, List.getElem_cons_zero, List.getElem_cons_succ, Act.put, List.setIfInBounds_toArray, List.set_cons_zero, List.set_cons_succ]
            refine wpAnyH_take (i := 11) (v := (.pointer (some ⟨x''.r, h * 3, none⟩))) rfl (by kernel_rfl) (by kernel_rfl) (by kernel_rfl) (fun _ _ _ h => h) (Or.inl ⟨by rfl, by (intro w hSw; obtain ⟨q1, q2⟩ := hSw; go_simp)⟩) hHeld ?_
            try simp only [List.getElem_toArray, List.getElem_cons_zero, List.getElem_cons_succ, Act.put, List.setIfInBounds_toArray, List.set_cons_zero, List.set_cons_succ]
            refine wpAnyH_take (i := 12) (v := (.pointer (some ⟨x''.r, h * 3 + 1, none⟩))) rfl (by kernel_rfl) (by kernel_rfl) (by kernel_rfl) (fun _ _ _ h => h) (Or.inl ⟨by rfl, by (intro w hSw; obtain ⟨q1, q2⟩ := hSw; go_simp)⟩) hHeld ?_
            try simp only [List.getElem_toArray, List.getElem_cons_zero, List.getElem_cons_succ, Act.put, List.setIfInBounds_toArray, List.set_cons_zero, List.set_cons_succ]
            refine wpAnyH_take (i := 13) (v := (.int .i64 (x''.fall h))) rfl (by kernel_rfl) (by kernel_rfl) (by kernel_rfl) (fun _ _ _ h => h) (Or.inl ⟨by rfl, by (intro w hSw; obtain ⟨q1, q2⟩ := hSw; go_simp)⟩) hHeld ?_
            try simp only [List.getElem_toArray, List.getElem_cons_zero, List.getElem_cons_succ, Act.put, List.setIfInBounds_toArray, List.set_cons_zero, List.set_cons_succ]
            refine wpAnyH_take (i := 14) (v := (.int .i64 y)) rfl (by kernel_rfl) (by kernel_rfl) (by kernel_rfl) (fun _ _ _ h => h) (Or.inl ⟨by rfl, by (intro w hSw; obtain ⟨q1, q2⟩ := hSw; go_simp)⟩) hHeld ?_
            try simp only [List.getElem_toArray, List.getElem_cons_zero, List.getElem_cons_succ, Act.put, List.setIfInBounds_toArray, List.set_cons_zero, List.set_cons_succ]
            refine wpAnyH_ready (rs := [15]) (by kernel_rfl) (by simp) ?_
            refine AllReadyH.cons rfl (fun K hK => ?_) AllReadyH.nil
            refine step_callf rfl 16 #[.pointer (some ⟨x.g, 0, none⟩), .int .i64 (x''.fall h), .int .i64 y] rfl (by kernel_rfl) (fun u w' => w' = w5.drew ∧ ∃ v : Nat, u = .int .i64 v ∧ Hid (StepTo t (x''.fall h) y v)) (HC.out.mono fun e w' ⟨h1, v, h2, h3⟩ => ⟨_, h2, h1, v, rfl, Lib.hid h3⟩) ?_
            rintro u w3' ⟨rfl, v, rfl, HS⟩
            refine hK.out _ _ ⟨c5, f5⟩ (fun hHeld2 => ?_)
            clear hK K hHeld
            try simp only [List.getElem_toArray, List.getElem_cons_zero, List.getElem_cons_succ, Act.put, List.setIfInBounds_toArray, List.set_cons_zero, List.set_cons_succ]
            refine wpAnyH_take (i := 16) (v := (.pointer (some ⟨x''.r, j * 3, none⟩))) rfl (by kernel_rfl) (by kernel_rfl) (by kernel_rfl) (fun _ _ _ h => h) (Or.inl ⟨by rfl, by (intro w hSw; obtain ⟨q1, q2⟩ := hSw; go_simp)⟩) hHeld2 ?_
            try simp only [List.getElem_toArray, List.getElem_cons_zero, List.getElem_cons_succ, Act.put, List.setIfInBounds_toArray, List.set_cons_zero, List.set_cons_succ]
            refine wpAnyH_take (i := 17) (v := (.pointer (some ⟨x''.r, j * 3 + 1, none⟩))) rfl (by kernel_rfl) (by kernel_rfl) (by kernel_rfl) (fun _ _ _ h => h) (Or.inl ⟨by rfl, by (intro w hSw; obtain ⟨q1, q2⟩ := hSw; go_simp)⟩) hHeld2 ?_
            try simp only [List.getElem_toArray, List.getElem_cons_zero, List.getElem_cons_succ, Act.put, List.setIfInBounds_toArray, List.set_cons_zero, List.set_cons_succ]
            refine wpAnyH_ready (rs := [18]) (by kernel_rfl) (by simp) ?_
            refine AllReadyH.cons rfl (fun K hK => ?_) AllReadyH.nil
            go_simp
            refine hK.out _ _ ⟨(World.cell?_setCell_far w5 _ _ _ hgr).trans c5, (World.cell?_setCell_other w5 _ _ _ (fun e => by injection e with _ e _; omega)).trans f5⟩ (fun hHeld3 => ?_)
            clear hK K hHeld2
            try simp only [List.getElem_toArray, List.getElem_cons_zero, List.getElem_cons_succ, Act.put, List.setIfInBounds_toArray, List.set_cons_zero, List.set_cons_succ]
            refine wpAnyH_done (by kernel_rfl) ?_ _
            have HAf := Lib.hid (AbIs.falls HAd.out (v := v) hjN)
            have hE6 : Eqv [x''.r] w5 (w5.drew.setCell ⟨x''.r, j * 3 + 1, none⟩ (.int .i64 v)) := Eqv.setCell _ _ _ (by simp)
            have HQ6 := Lib.hid (HQ5.out.eqv hE6 (fun k hk => .inl (by rw [List.mem_singleton.1 hk]; exact HL.out.2.1)))
            have hrt5 := HA5.out.rty
            have HR6 : Hid (RangesO _ _ _ _ _ _ _) := Lib.hid (HR5.out.1.eqvR hE6 (fun hm => (ne_ty HR5.out.1.map.ty hrt5 (by decide)) (List.mem_singleton.1 hm)) (fun hm => (ne_ty HR5.out.1.ity hrt5 (by decide)) (List.mem_singleton.1 hm)))
            have HE6 : Hid (Ext w0 (w5.drew.setCell ⟨x''.r, j * 3 + 1, none⟩ (.int .i64 v))) := Lib.hid (Ext.setCell (HE5.out.to_drew) (p := ⟨x''.r, j * 3 + 1, none⟩) HA5.out.r0.1 _)
            have hHr6 : H ≤ (w5.drew.setCell ⟨x''.r, j * 3 + 1, none⟩ (.int .i64 v)).heap.size := by simp; exact hHr5
            have hsw : w5.drew.setCell ⟨x''.r, j * 3 + 1, none⟩ (.int .i64 v) = (w5.setCell ⟨x''.r, j * 3 + 1, none⟩ (.int .i64 v)).drew := rfl
            rw [hsw] at HAf HQ6 HR6 HE6 hHr6
            obtain ⟨w6, hw6⟩ : ∃ w6, w6 = (w5.setCell ⟨x''.r, j * 3 + 1, none⟩ (.int .i64 v)).drew := ⟨_, rfl⟩
            rw [← hw6] at HAf HQ6 HR6 HE6 hHr6 ⊢
            clear hsw hE6 c5 f5 g5 z5 HAd HQ5 HE5 hHr5 hw6 hrt5
            go_wp2_with (at_builtin; refine wpList_queue rfl (.tmp 49) (.tmp 51) 23 rfl Try.underlying23 hj0 hy0 hy1 hy2 rfl HQ6.out hHr6 hn1 (j : Int) rfl ?_; intro A2 c2 w7 q k1 k2 k3 k4 k5 k6 k7)
            go_roundw
            case rel =>
              have hR := HR6.out.eqvR k2 (fun hm => (queue_ne k4 HR6.out.map.ty HR6.out.map.lt) (List.mem_singleton.1 hm)) (fun hm => (queue_ne k4 HR6.out.ity HR6.out.lt) (List.mem_singleton.1 hm))
              have HL2 : Hid (AbLow t { x'' with fall := upN x''.fall j v } H) := Lib.hid HL.out
              refine ⟨A2, n' + 1, c2, ks ++ [j], { x'' with fall := upN x''.fall j v }, _, rfl, hg, hm2, Lib.hid (by simp; have := HNN.out; omega), hR.nowA, ?_, HL2, Lib.hid (HAf.out.win HL2.out k2 (fun k hk => by rw [List.mem_singleton.1 hk]; exact k3)), Lib.hid (by rw [← List.append_assoc, natI_app]; exact k1), Lib.hid (HI.out.kid_step HO.out HH.out HKJ.out HLY.out (fun d => by rw [key_sameA]) HS.out), Lib.hid ⟨k5.trans HE6.out.os, k6.trans HE6.out.tape, k7.trans HE6.out.output, Nat.le_trans HE6.out.hsize k2.1, fun k hk => ?_⟩⟩
              · have := k2.1; omega
              · rw [k2.2 k (Nat.lt_of_lt_of_le hk HE6.out.hsize) (fun hm => by have := List.mem_singleton.1 hm; omega)]
                exact Below.block HE6.out k hk
            case measure =>
              have hR := HR6.out.eqvR k2 (fun hm => (queue_ne k4 HR6.out.map.ty HR6.out.map.lt) (List.mem_singleton.1 hm)) (fun hm => (queue_ne k4 HR6.out.ity HR6.out.lt) (List.mem_singleton.1 hm))
              rw [hR.left_eq]; exact HR5.out.2.1
end Go.Proofs.Ytdkjkcegchohfaa
