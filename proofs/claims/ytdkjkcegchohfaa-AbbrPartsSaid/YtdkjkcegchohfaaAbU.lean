/-
  A word is put in.
-/
import Derived.Test.YtdkjkcegchohfaaAbQ
import Derived.Deep.DeepCutAuto
import Derived.Deep.CutRange
import Derived.Deep.CutBlock
import Derived.Deep.Light
import Derived.Test.YtdkjkcegchohfaaPush
import Derived.Deep.RegionHeld3
namespace Go.Proofs.Ytdkjkcegchohfaa
open Go.RowKit Go.Maps
set_option linter.unusedVariables false
set_option linter.unusedSimpArgs false
attribute [local go_sem] Oper.semAt_some

theorem Own.form {w : World} {b e z n c : Nat} {A : Option Addr} {xs : List Value} (h : Own w b e z A n c xs) (hn : 0 < n) : ∃ g, A = some ⟨g, 0, none⟩ := by
  rcases h.2 with ⟨_, h0⟩ | ⟨g, cap, cur, hv, _⟩
  · omega
  · injection hv with hA _ _
    exact ⟨g, hA⟩
theorem info_node : (Try.prog.info? 72).map (fun i => (i.zero, i.size, i.bytes)) = some (some (.agg #[.map none, .int .i64 0, .slice none 0 0]), 3, 40) := by kernel_rfl
theorem gI_in {l : List Int} {k : Nat} (h : k < l.length) : gI l k ∈ l := by
  have : gI l k = l[k] := by unfold gI; simp [h]
  rw [this]; exact List.getElem_mem h
theorem takeI_snoc {l : List Int} {k : Nat} (h : k < l.length) : l.take (k + 1) = l.take k ++ [gI l k] := by
  have : gI l k = l[k] := by unfold gI; simp [h]
  rw [this, List.take_add_one, List.getElem?_eq_getElem h]; rfl
/-- What stays where a node's words are turned. -/
theorem AbIs.besides {w w' : World} {b0 K : Nat} {t : AC} {sz : List Int} {x : AbA} {p : Nat} (h : AbIs w b0 K t sz x) (hp : p < t.N) (hg : w.grownBy w' (x.ns p).row.ownBlock) :
    Own w' b0 72 3 (some ⟨x.r, 0, none⟩) t.N x.c (nodeC x.fall x.ns t.N) ∧ Blk w' x.g 75 #[.slice (some ⟨x.r, 0, none⟩) t.N x.c, .slice x.S x.Sn x.Sc] := by
  refine ⟨Own.kept h.row hg (.inr (fun e => ?_)), h.blk.grown hg (fun e => ?_)⟩
  · have h1 := Own.ty (h.ends p hp) e.symm
    have h2 : (Value.slice (some ⟨x.r, 0, none⟩) t.N x.c).ownBlock = some x.r := rfl
    rw [h2] at e
    have h3 := Own.ty (h.ends p hp) e.symm
    rw [h.rty] at h3
    revert h3; decide
  · have h3 := Own.ty (h.ends p hp) e.symm
    rw [h.blk.ty] at h3
    revert h3; decide
theorem nodup_lt : ∀ (N : Nat) {l : List Nat}, l.Nodup → (∀ x ∈ l, x < N) → l.length ≤ N
  | 0, l, _, h => by
    cases l with
    | nil => exact Nat.le_refl _
    | cons a l => exact absurd (h a (by simp)) (by omega)
  | N + 1, l, hn, h => by
    by_cases hm : N ∈ l
    · have h1 := nodup_lt N (hn.erase N) (fun x hx => by
        have h2 := (hn.mem_erase_iff.1 hx)
        have := h x h2.2
        have := h2.1
        omega)
      rw [List.length_erase_of_mem hm] at h1
      omega
    · have := nodup_lt N hn (fun x hx => by
        have := h x hx
        have : x ≠ N := fun e => hm (e ▸ hx)
        omega)
      omega
/-- The map's keys are numbers of 64 bits. -/
def KeysWf (t : AC) : Prop := ∀ p c j, t.nx p c = some j → (Lit.int .i64 c).wf = true
theorem KeysWf.add {t : AC} (h : KeysWf t) (p : Nat) {c : Int} (hc : (Lit.int .i64 c).wf = true) : KeysWf (t.add p c) := fun q d j hq => by
  have e : (t.add p c).nx q d = if q = p ∧ d = c then some t.N else t.nx q d := rfl
  rw [e] at hq
  split at hq
  · rename_i hh; rw [hh.2]; exact hc
  · exact h q d j hq
def FallZ (t : AC) (x : AbA) : Prop := ∀ i, i < t.N → x.fall i = 0

set_option maxRecDepth 20000 in
set_option maxHeartbeats 2000000 in
theorem abPut_ok {w0 w : World} {K n c k0 : Nat} {A : Option Addr} {u : List Int} {t : AC} {ws : List (List Int)} {sz : List Int} {x : AbA} (ho : t.Ok ws) (h : AbIs w w0.heap.size K t sz x) (hz : FallZ t x) (hkw : KeysWf t) (hu : Ints w0 A n c u) (huw : ∀ v ∈ u, (Lit.int .i64 v).wf = true)
    (hn : n ≤ 24) (hN : t.N + n ≤ 4000) (hK : K + n ≤ 50000) (hk : k0 ≤ 1000) (hk1 : ws.length = k0) (he : Ext w0 w) :
    Calls Try.prog 36 #[.pointer (some ⟨x.g, 0, none⟩), .int .i64 k0, .slice A n c] w fun e w' => e = .returned (.tuple #[]) ∧ ∃ t' x' p, t'.Ok ws ∧ p < t'.N ∧ t'.str p = u ∧ AbIs w' w0.heap.size (K + n) (t'.endAt p k0) sz x' ∧ x'.g = x.g ∧ FallZ t' x' ∧ t'.N ≤ t.N + n ∧ Ext w0 w' ∧ KeysWf t' := by
  obtain ⟨i0, hi0, hz0, hz1, hz2⟩ := info_parts info_node
  have hmm := @run_makeMap Try.prog
  have HU := Lib.hid hu
  have hlen := hu.len
  have H := Lib.hid h
  have HO := Lib.hid ho
  have HZ := Lib.hid hz
  have HKW := Lib.hid hkw
  have HW := Lib.hid huw
  clear h ho hu huw hz hkw
  go_enter Try.func36, Try.ntmps36
  go_wp2_with fail
  go_loopw [6, 13] (fun av kv wr => ∃ (k p : Nat) (t' : AC) (x' : AbA), k ≤ n ∧ p < t'.N ∧ t'.N ≤ t.N + k ∧ av = .int .i64 p ∧ kv = .int .i64 k ∧ x'.g = x.g ∧ AbIs wr w0.heap.size (K + k) t' sz x' ∧ Ext w0 wr ∧ Hid (t'.Ok ws ∧ t'.str p = u.take k ∧ FallZ t' x' ∧ KeysWf t')) (fun _ kv _ => n + 1 - (intOf kv).toNat)
  case atStart => exact ⟨0, 0, t, x, Nat.zero_le _, H.out.pos, Nat.le_refl _, rfl, rfl, rfl, H.out, he, Lib.hid ⟨HO.out, HO.out.root, HZ.out, HKW.out⟩⟩
  case round =>
    obtain ⟨k, p, t', x', hkn, hp, htN, rfl, rfl, hg, hA, hx, HT⟩ := hrel
    clear he
    have HA := Lib.hid hA
    have c0 := hA.c0
    have hm := hA.nm hp
    have hmap := hA.map p hp
    have hne := hA.ne hp
    rw [hg] at c0
    clear hA
    by_cases hlt : k < n
    · obtain ⟨ad, rfl, hcc⟩ := HU.out.at_ hlt
      have hck : wr.cell? (ad.add k) = some (.int .i64 (gI u k)) := hx.cell (hcc k (by omega))
      have hcw : (Lit.int .i64 (gI u k)).wf = true := HW.out _ (gI_in (by omega))
      clear hcc
      cases hn2 : t'.nx p (gI u k) with
      | some j =>
        have hv : (nxF t' p (gI u k)).getD (.int .i64 0) = .int .i64 j := by unfold nxF; rw [hn2]; rfl
        have hs : (nxF t' p (gI u k)).isSome = true := by unfold nxF; rw [hn2]; rfl
        go_wp2_with (at_lookup; refine wpList_got_o _ rfl _ _ _ _ rfl Try.underlying70 rfl hmap (gI u k) (.int .i64 0) rfl hcw (zero_intO _) _ _ hv hs ?_)
        go_roundw
        case rel =>
          obtain ⟨q1, q2, q3⟩ := (HT.out.1.nxt p (gI u k) j).1 hn2
          refine ⟨k + 1, j, t', x', by omega, q2, by omega, rfl, by go_num, hg, ⟨HA.out.pos, HA.out.max, by omega, HA.out.g0, HA.out.blk, HA.out.row, HA.out.siz, HA.out.m0, fun i hi => (HA.out.map i hi).mono (by omega), HA.out.ends, HA.out.minj, HA.out.einj, HA.out.esiz⟩, hx, Lib.hid ⟨HT.out.1, ?_, HT.out.2.2⟩⟩
          rw [q3, HT.out.2.1, takeI_snoc (by omega)]
        case measure => simp [intOf]; omega
      | none =>
        have hv : (nxF t' p (gI u k)).getD (.int .i64 0) = .int .i64 0 := by unfold nxF; rw [hn2]; rfl
        have hs : (nxF t' p (gI u k)).isSome = false := by unfold nxF; rw [hn2]; rfl
        have hrow := HA.out.row
        have e1 := Ext.alloc wr (.map #[] 0)
        have hrow1 := Own.ext hrow e1
        have hxw := hx.trans e1
        have hs1 : (wr.alloc (.map #[] 0)).heap.size = wr.heap.size + 1 := by simp
        have HB : Hid (∀ w2, (wr.alloc (.map #[] 0)).grownBy w2 (Value.slice (some ⟨x'.r, 0, none⟩) t'.N x'.c).ownBlock → Blk w2 x.g 75 #[.slice (some ⟨x'.r, 0, none⟩) t'.N x'.c, .slice x'.S x'.Sn x'.Sc]) := Lib.hid (fun w2 h2 => by
          have hb := HA.out.blk
          rw [hg] at hb
          refine (hb.ext e1).grown h2 (fun e => ?_)
          injection e with e
          have h3 := HA.out.rty
          have h4 := hb.ty
          have e' : x.g = x'.r := e
          rw [e', h3] at h4
          revert h4; decide)
        go_upto_region 8 with (first | (at_lookup; refine wpList_got_o _ rfl _ _ _ _ rfl Try.underlying70 rfl hmap (gI u k) (.int .i64 0) rfl hcw (zero_intO _) _ _ hv hs ?_) | (at_builtin; refine wpList_push rfl (.tmp 41) (.tmp 44) 73 rfl w0 w0.heap.size 72 i0 _ 3 40 Try.underlying73 hi0 hz0 hz1 hz2 rfl (by decide) _ _ _ _ rfl hrow1 #[.map (some wr.heap.size), .int .i64 0, .slice none 0 0] rfl (by simp [Value.oneCell']) (by rw [hs1]; rfl) (by unfold maxLen; omega) (by omega) hxw (Nat.le_refl _) hxw.hsize ?_; intro A2 d2 w2 k1 k2 k3 k4; obtain ⟨r2, rfl⟩ := Own.form k1 (by omega); have y0 := HB.out w2 k2; have y1 : w2.cell? ⟨x.g, 0, none⟩ = some (.slice (some ⟨x'.r, 0, none⟩) t'.N x'.c) := (by rw [y0.cell 0]; rfl); have y2 := y0.frozen 0))
        obtain ⟨w3, hw3⟩ : ∃ w3, w3 = w2.setCell ⟨x.g, 0, none⟩ (.slice (some ⟨r2, 0, none⟩) (t'.N + 1) d2) := ⟨_, rfl⟩
        rw [← hw3]
        have hx3 : Ext w0 w3 := by rw [hw3]; exact Ext.setCell k4 (p := ⟨x.g, 0, none⟩) (by have := HA.out.g0; rw [hg] at this; exact this) _
        obtain ⟨x2, hx2, HA2⟩ : ∃ x2 : AbA, (x2.g = x.g ∧ x2.r = r2 ∧ x2.c = d2 ∧ (x2.ns p).m = (x'.ns p).m) ∧ Hid (AbIs w3 w0.heap.size (K + k) (t'.raw p (gI u k)) sz x2 ∧ FallZ (t'.raw p (gI u k)) x2) := by
          have hB0 := HB.out w2 k2
          have hb3 : Blk w3 x.g 75 #[.slice (some ⟨r2, 0, none⟩) (t'.N + 1) d2, .slice x'.S x'.Sn x'.Sc] := by
            have := hB0.set_ 0 (.slice (some ⟨r2, 0, none⟩) (t'.N + 1) d2)
            rw [hw3]; simpa using this
          have hr3 : Own w3 w0.heap.size 72 3 (some ⟨r2, 0, none⟩) (t'.N + 1) d2 (nodeC x'.fall x'.ns t'.N ++ [.map (some wr.heap.size), .int .i64 0, .slice none 0 0]) := by
            rw [hw3]
            refine Own.eqv k1 (Eqv.setCell (N := [x.g]) _ _ _ (by simp)) (fun j hj hm => ?_)
            have h1 := k1.ty hj
            rw [List.mem_singleton.1 hm, hB0.ty] at h1
            revert h1; decide
          have hE : Eqv [x'.r, x'.g] wr w3 := by
            rw [hw3]
            refine (e1.eqv _).trans ((Eqv.grown k2 (fun j hj => ?_)).trans (Eqv.setCell _ _ _ (by simp [hg])))
            injection hj with hj
            subst hj; simp
          have hlt0 : wr.heap.size < (wr.alloc (.map #[] 0)).heap.size := by simp
          have hm3 : MapO w3 wr.heap.size 0 (fun _ => none) := by
            have h0 := MapO.made wr
            have h2 := h0.grown k2 (fun e => by
              injection e with e
              have h3 := (Own.blk HA.out.row x'.r rfl).2
              have e' : wr.heap.size = x'.r := e
              omega)
            rw [hw3]
            refine h2.eqv (Eqv.setCell (N := [x.g]) _ _ _ (by simp)) (fun hm => ?_)
            have h1 := h2.ty
            rw [List.mem_singleton.1 hm, hB0.ty] at h1
            revert h1; decide
          have hR := AbIs.raw (p := p) (d := gI u k) HA.out (by omega) (fun c => by
            cases hq : t'.nx t'.N c with
            | none => rfl
            | some j => have := ((HT.out.1.nxt _ _ _).1 hq).1; omega) (Nat.le_refl _) hx.hsize hm3 hr3 (by rw [hg]; exact hb3) hE
          refine ⟨{ x' with r := r2, c := d2, ns := upN x'.ns t'.N ⟨wr.heap.size, none, 0, 0⟩, fall := upN x'.fall t'.N 0 }, ⟨hg, rfl, rfl, ?_⟩, Lib.hid ⟨hR, fun i hi => ?_⟩⟩
          · show (upN x'.ns t'.N _ p).m = _
            rw [upN_ne (by omega)]
          · show upN x'.fall t'.N 0 i = 0
            by_cases e : i = t'.N
            · rw [e, upN_at]
            · rw [upN_ne e]
              refine HT.out.2.2.1 i ?_
              have : (t'.raw p (gI u k)).N = t'.N + 1 := rfl
              omega
        obtain ⟨e1, e2, e3, e4⟩ := hx2
        have HX2 := Lib.hid HA2.out.1
        have hp2 : p < (t'.raw p (gI u k)).N := by show p < t'.N + 1; omega
        have f0 := HX2.out.c0
        have f1 := HX2.out.nm hp2
        have f2 := HX2.out.map p hp2
        rw [e1, e2, e3, show (t'.raw p (gI u k)).N = t'.N + 1 from rfl] at f0
        rw [e2, e4] at f1
        rw [e4] at f2
        have hmx : K + k < maxLen := by unfold maxLen; omega
        clear hw3 k1 k2 k3 k4 y0 y1 y2 hrow hrow1 hxw hs1 hm hmap hne c0 hck
        go_wp2_with (at_mapUpdate; refine wpList_put_o _ rfl _ _ _ _ _ rfl Try.underlying70 rfl f2 hmx (gI u k) _ rfl hcw rfl ?_; intro w4 g1 g2)
        go_roundw
        case rel =>
          rw [← e4] at g1 g2
          have hL := AbIs.led HX2.out (p := p) (d := gI u k) hp (by omega) g1 g2
          have hO2 := HT.out.1.add hp hn2
          have hNN : (t'.add p (gI u k)).N = t'.N + 1 := rfl
          refine ⟨k + 1, t'.N, t'.add p (gI u k), x2, by omega, by omega, by omega, rfl, by go_num, e1, hL, ?_, Lib.hid ⟨hO2, ?_, HA2.out.2, HT.out.2.2.2.add p hcw⟩⟩
          · exact Below.grown hx3 g2 hx3.hsize (fun j hj => by injection hj with hj; rw [← hj]; exact HX2.out.m0 p hp2)
          · show (if t'.N = t'.N then t'.str p ++ [gI u k] else t'.str t'.N) = _
            rw [if_pos rfl, HT.out.2.1, takeI_snoc (by omega)]
        case measure => simp [intOf]; omega
    · obtain rfl : k = n := by omega
      have hEn := (HA.out.ends p hp).len
      have hen : (x'.ns p).n ≤ 1000 := by
        obtain ⟨q1, q2⟩ := HT.out.1.ends p hp
        have q3 : (t'.ends p).Nodup := q1.imp (fun h => by omega)
        have q4 := nodup_lt ws.length q3 (fun y hy => ((q2 y).1 hy).1)
        simp [endV] at hEn
        omega
      clear hEn
      obtain ⟨j0, hj0, hy0, hy1, hy2⟩ := info_parts info_int
      have HE0 := HA.out.ends p hp
      have HED : OwnI wr.drew w0.heap.size (x'.ns p).E (x'.ns p).n (x'.ns p).c (endV t' p) := Own.ext HE0 (Ext.drew wr)
      have c0d : wr.drew.cell? ⟨x.g, 0, none⟩ = some (.slice (some ⟨x'.r, 0, none⟩) t'.N x'.c) := c0
      have hned : wr.drew.cell? ⟨x'.r, p * 3 + 2, none⟩ = some (.slice (x'.ns p).E (x'.ns p).n (x'.ns p).c) := hne
      have hneb : (wr.alloc (.cells #[.int .i64 k0] 3)).cell? ⟨x'.r, p * 3 + 2, none⟩ = some (.slice (x'.ns p).E (x'.ns p).n (x'.ns p).c) := (Ext.alloc _ _).cell hne
      have c0a : (wr.drew.alloc (.cells #[.int .i64 k0] 3)).cell? ⟨x.g, 0, none⟩ = some (.slice (some ⟨x'.r, 0, none⟩) t'.N x'.c) := (Ext.alloc _ _).cell c0d
      have hnea : (wr.drew.alloc (.cells #[.int .i64 k0] 3)).cell? ⟨x'.r, p * 3 + 2, none⟩ = some (.slice (x'.ns p).E (x'.ns p).n (x'.ns p).c) := (Ext.alloc _ _).cell hned
      have hxd : Ext w0 wr.drew := hx.trans (Ext.drew wr)
      have HBS : Hid (∀ w5, wr.drew.grownBy w5 (Value.slice (x'.ns p).E (x'.ns p).n (x'.ns p).c).ownBlock → Own w5 w0.heap.size 72 3 (some ⟨x'.r, 0, none⟩) t'.N x'.c (nodeC x'.fall x'.ns t'.N) ∧ Blk w5 x.g 75 #[.slice (some ⟨x'.r, 0, none⟩) t'.N x'.c, .slice x'.S x'.Sn x'.Sc]) := Lib.hid (fun w5 h5 => by
        have := (HA.out.ext (Ext.drew wr)).besides hp h5
        rw [hg] at this
        exact this)
      have hgr : x'.r ≠ x.g := by rw [← hg]; exact ne_ty HA.out.rty HA.out.blk.ty (by decide)
      have v2n : ∀ {w5 : World} {u : Value}, Blk w5 x.g 75 #[.slice (some ⟨x'.r, 0, none⟩) t'.N x'.c, .slice x'.S x'.Sn x'.Sc] → (w5.setCell ⟨x'.r, p * 3 + 2, none⟩ u).cell? ⟨x.g, 0, none⟩ = some (.slice (some ⟨x'.r, 0, none⟩) t'.N x'.c) := fun hb => by
        rw [World.cell?_setCell_far _ _ _ _ hgr, hb.cell 0]; rfl
      have HEND : Hid (∀ E2 d2 (w5 : World), OwnI w5 w0.heap.size E2 ((x'.ns p).n + 1) d2 (endV t' p ++ [(k0 : Int)]) → wr.drew.grownBy w5 (Value.slice (x'.ns p).E (x'.ns p).n (x'.ns p).c).ownBlock →
          ((Value.slice E2 ((x'.ns p).n + 1) d2).ownBlock = (Value.slice (x'.ns p).E (x'.ns p).n (x'.ns p).c).ownBlock ∨ ∃ g, wr.drew.heap.size ≤ g ∧ (Value.slice E2 ((x'.ns p).n + 1) d2).ownBlock = some g) → Ext w0 w5 →
          ∃ t'' x'' q, t''.Ok ws ∧ q < t''.N ∧ t''.str q = u ∧ AbIs (w5.setCell ⟨x'.r, p * 3 + 2, none⟩ (.slice E2 ((x'.ns p).n + 1) d2)) w0.heap.size (K + k) (t''.endAt q k0) sz x'' ∧ x''.g = x.g ∧ FallZ t'' x'' ∧ t''.N ≤ t.N + k ∧ Ext w0 (w5.setCell ⟨x'.r, p * 3 + 2, none⟩ (.slice E2 ((x'.ns p).n + 1) d2)) ∧ KeysWf t'') := Lib.hid (by
        intro E2 d2 w5 k1 k2 k3 k4
        have hAd := HA.out.ext (Ext.drew wr)
        obtain ⟨v1, v2⟩ := hAd.besides hp k2
        have hr6 := (World.ownsRow.stored v1 (p * 3 + 2) (.slice E2 ((x'.ns p).n + 1) d2)).1
        have e6 := nodeC_ends (fall := x'.fall) (ns := x'.ns) (x := ⟨(x'.ns p).m, E2, (x'.ns p).n + 1, d2⟩) hp rfl
        have e7 : (nodeC x'.fall x'.ns t'.N).set (p * 3 + 2) (.slice E2 ((x'.ns p).n + 1) d2) = nodeC x'.fall (upN x'.ns p ⟨(x'.ns p).m, E2, (x'.ns p).n + 1, d2⟩) t'.N := e6
        rw [e7] at hr6
        have hE6 : OwnI (w5.setCell ⟨x'.r, p * 3 + 2, none⟩ (.slice E2 ((x'.ns p).n + 1) d2)) w0.heap.size E2 ((x'.ns p).n + 1) d2 (endV t' p ++ [(k0 : Int)]) := by
          refine Own.eqv k1 (Eqv.setCell (N := [x'.r]) _ _ _ (by simp)) (fun j hj hm => ?_)
          have h1 := Own.ty k1 hj
          have h2 := v1.ty (k := x'.r) rfl
          rw [List.mem_singleton.1 hm, h2] at h1
          revert h1; decide
        obtain ⟨N, hN1, hN2⟩ : ∃ N, Eqv N wr.drew (w5.setCell ⟨x'.r, p * 3 + 2, none⟩ (.slice E2 ((x'.ns p).n + 1) d2)) ∧ ∀ j, j ∈ N → j = x'.r ∨ (x'.ns p).row.ownBlock = some j := by
          cases hob : (x'.ns p).row.ownBlock with
          | none =>
            refine ⟨[x'.r], (Eqv.grown k2 (fun j hj => ?_)).trans (Eqv.setCell _ _ _ (by simp)), fun j hj => .inl (List.mem_singleton.1 hj)⟩
            have : (x'.ns p).row.ownBlock = some j := hj
            rw [hob] at this; cases this
          | some b =>
            refine ⟨[x'.r, b], (Eqv.grown k2 (fun j hj => ?_)).trans (Eqv.setCell _ _ _ (by simp)), fun j hj => ?_⟩
            · have : (x'.ns p).row.ownBlock = some j := hj
              rw [hob] at this; injection this with this
              simp [this]
            · rcases List.mem_cons.1 hj with e | e
              · exact .inl e
              · exact .inr (by rw [List.mem_singleton.1 e])
        have hF := AbIs.ended hAd (p := p) (k := k0) hp hr6 hE6 (fun j hj => by
          rcases k3 with k3 | ⟨g, h1, k3⟩
          · exact .inl (by rw [← hj, k3]; rfl)
          · rw [k3] at hj; injection hj with hj; exact .inr (by omega)) hN1 hN2
        refine ⟨t', _, p, HT.out.1, hp, ?_, hF, hg, fun i hi => HT.out.2.2.1 i hi, htN, ?_, HT.out.2.2.2⟩
        · rw [HT.out.2.1, List.take_of_length_le (by omega)]
        · exact Ext.setCell k4 (p := ⟨x'.r, p * 3 + 2, none⟩) HA.out.r0.1 _)
      go_wp2_with fail
      refine wp_region_held_drew (S := fun w' => w'.cell? ⟨x.g, 0, none⟩ = some (.slice (some ⟨x'.r, 0, none⟩) t'.N x'.c)) (by kernel_rfl) c0d (fun hHeld => ?_)
      refine wpAnyH_take (i := 0) (v := (.pointer (some ⟨x.g, 0, none⟩))) rfl (by kernel_rfl) (by kernel_rfl) (by kernel_rfl) (fun _ _ _ h => h) (Or.inl ⟨by rfl, by (intro w hSw; have q1 := hSw; go_simp)⟩) hHeld ?_
      try simp only [List.getElem_toArray, List.getElem_cons_zero, List.getElem_cons_succ, Act.put, List.setIfInBounds_toArray, List.set_cons_zero, List.set_cons_succ]
      refine wpAnyH_take (i := 1) (v := (.pointer (some ⟨x.g, 0, none⟩))) rfl (by kernel_rfl) (by kernel_rfl) (by kernel_rfl) (fun _ _ _ h => h) (Or.inl ⟨by rfl, by (intro w hSw; have q1 := hSw; go_simp)⟩) hHeld ?_
      try simp only [List.getElem_toArray, List.getElem_cons_zero, List.getElem_cons_succ, Act.put, List.setIfInBounds_toArray, List.set_cons_zero, List.set_cons_succ]
      refine wpAnyH_take (i := 2) (v := (.pointer (some ⟨x.g, 0, none⟩))) rfl (by kernel_rfl) (by kernel_rfl) (by kernel_rfl) (fun _ _ _ h => h) (Or.inl ⟨by rfl, by (intro w hSw; have q1 := hSw; go_simp)⟩) hHeld ?_
      try simp only [List.getElem_toArray, List.getElem_cons_zero, List.getElem_cons_succ, Act.put, List.setIfInBounds_toArray, List.set_cons_zero, List.set_cons_succ]
      refine wpAnyH_take (i := 3) (v := (.slice (some ⟨x'.r, 0, none⟩) t'.N x'.c)) rfl (by kernel_rfl) (by kernel_rfl) (by kernel_rfl) (fun _ _ _ h => h) (Or.inl ⟨by rfl, by (intro w hSw; have q1 := hSw; go_simp)⟩) hHeld ?_
      try simp only [List.getElem_toArray, List.getElem_cons_zero, List.getElem_cons_succ, Act.put, List.setIfInBounds_toArray, List.set_cons_zero, List.set_cons_succ]
      refine wpAnyH_take (i := 4) (v := (.int .i64 p)) rfl (by kernel_rfl) (by kernel_rfl) (by kernel_rfl) (fun _ _ _ h => h) (Or.inl ⟨by rfl, by (intro w hSw; have q1 := hSw; go_simp)⟩) hHeld ?_
      try simp only [List.getElem_toArray, List.getElem_cons_zero, List.getElem_cons_succ, Act.put, List.setIfInBounds_toArray, List.set_cons_zero, List.set_cons_succ]
      refine wpAnyH_take (i := 5) (v := (.pointer (some ⟨x.g, 0, none⟩))) rfl (by kernel_rfl) (by kernel_rfl) (by kernel_rfl) (fun _ _ _ h => h) (Or.inl ⟨by rfl, by (intro w hSw; have q1 := hSw; go_simp)⟩) hHeld ?_
      try simp only [List.getElem_toArray, List.getElem_cons_zero, List.getElem_cons_succ, Act.put, List.setIfInBounds_toArray, List.set_cons_zero, List.set_cons_succ]
      refine wpAnyH_take (i := 6) (v := (.pointer (some ⟨x.g, 0, none⟩))) rfl (by kernel_rfl) (by kernel_rfl) (by kernel_rfl) (fun _ _ _ h => h) (Or.inl ⟨by rfl, by (intro w hSw; have q1 := hSw; go_simp)⟩) hHeld ?_
      try simp only [List.getElem_toArray, List.getElem_cons_zero, List.getElem_cons_succ, Act.put, List.setIfInBounds_toArray, List.set_cons_zero, List.set_cons_succ]
      refine wpAnyH_take (i := 7) (v := (.pointer (some ⟨x.g, 0, none⟩))) rfl (by kernel_rfl) (by kernel_rfl) (by kernel_rfl) (fun _ _ _ h => h) (Or.inl ⟨by rfl, by (intro w hSw; have q1 := hSw; go_simp)⟩) hHeld ?_
      try simp only [List.getElem_toArray, List.getElem_cons_zero, List.getElem_cons_succ, Act.put, List.setIfInBounds_toArray, List.set_cons_zero, List.set_cons_succ]
      refine wpAnyH_take (i := 8) (v := (.slice (some ⟨x'.r, 0, none⟩) t'.N x'.c)) rfl (by kernel_rfl) (by kernel_rfl) (by kernel_rfl) (fun _ _ _ h => h) (Or.inl ⟨by rfl, by (intro w hSw; have q1 := hSw; go_simp)⟩) hHeld ?_
      try simp only [List.getElem_toArray, List.getElem_cons_zero, List.getElem_cons_succ, Act.put, List.setIfInBounds_toArray, List.set_cons_zero, List.set_cons_succ]
      refine wpAnyH_take (i := 9) (v := (.int .i64 p)) rfl (by kernel_rfl) (by kernel_rfl) (by kernel_rfl) (fun _ _ _ h => h) (Or.inl ⟨by rfl, by (intro w hSw; have q1 := hSw; go_simp)⟩) hHeld ?_
      try simp only [List.getElem_toArray, List.getElem_cons_zero, List.getElem_cons_succ, Act.put, List.setIfInBounds_toArray, List.set_cons_zero, List.set_cons_succ]
      refine wpAnyH_take (i := 10) (v := (.pointer (some ⟨x'.r, p * 3, none⟩))) rfl (by kernel_rfl) (by kernel_rfl) (by kernel_rfl) (fun _ _ _ h => h) (Or.inl ⟨by rfl, by (intro w hSw; have q1 := hSw; go_simp)⟩) hHeld ?_
      try simp only [List.getElem_toArray, List.getElem_cons_zero, List.getElem_cons_succ, Act.put, List.setIfInBounds_toArray, List.set_cons_zero, List.set_cons_succ]
      refine wpAnyH_take (i := 11) (v := (.pointer (some ⟨x'.r, p * 3 + 2, none⟩))) rfl (by kernel_rfl) (by kernel_rfl) (by kernel_rfl) (fun _ _ _ h => h) (Or.inl ⟨by rfl, by (intro w hSw; have q1 := hSw; go_simp)⟩) hHeld ?_
      try simp only [List.getElem_toArray, List.getElem_cons_zero, List.getElem_cons_succ, Act.put, List.setIfInBounds_toArray, List.set_cons_zero, List.set_cons_succ]
      refine wpAnyH_take (i := 13) (v := (.int .i64 k0)) rfl (by kernel_rfl) (by kernel_rfl) (by kernel_rfl) (fun _ _ _ h => h) (Or.inl ⟨by rfl, by (intro w hSw; have q1 := hSw; go_simp)⟩) hHeld ?_
      try simp only [List.getElem_toArray, List.getElem_cons_zero, List.getElem_cons_succ, Act.put, List.setIfInBounds_toArray, List.set_cons_zero, List.set_cons_succ]
      refine wpAnyH_ready (rs := [12, 14]) (by kernel_rfl) (by simp) ?_
      refine AllReadyH.cons rfl (fun K hK => ?_) (AllReadyH.cons rfl (fun K hK => ?_) AllReadyH.nil)
      · go_simp
        refine hK.out _ _ c0d (fun hH2 => ?_)
        clear hK K
        try simp only [List.getElem_toArray, List.getElem_cons_zero, List.getElem_cons_succ, Act.put, List.setIfInBounds_toArray, List.set_cons_zero, List.set_cons_succ]
        refine wpAnyH_ready (rs := [14]) (by kernel_rfl) (by simp) ?_
        refine AllReadyH.cons rfl (fun K hK => ?_) AllReadyH.nil
        go_simp
        refine hK.out _ _ c0a (fun hH3 => ?_)
        clear hK K
        try simp only [List.getElem_toArray, List.getElem_cons_zero, List.getElem_cons_succ, Act.put, List.setIfInBounds_toArray, List.set_cons_zero, List.set_cons_succ]
        refine wpAnyH_ready (rs := [15]) (by kernel_rfl) (by simp) ?_
        refine AllReadyH.cons rfl (fun K hK => ?_) AllReadyH.nil
        refine step_put rfl (.tmp 72) (.tmp 74) 23 rfl w0 w0.heap.size 3 j0 _ 1 8 Try.underlying23 hj0 hy0 hy1 hy2 rfl (by decide) _ _ _ _ rfl HED #[.int .i64 k0] rfl (by simp [Value.oneCell']) rfl (by unfold maxLen; omega) (by omega) hxd (Nat.le_refl _) hxd.hsize ?_
        intro E2 d2 w5 k1 k2 k3 k4
        obtain ⟨v1, v2⟩ := HBS.out w5 k2
        have v3 := (v2.cell 0).trans (rfl : _ = some (Value.slice (some ⟨x'.r, 0, none⟩) t'.N x'.c))
        have v4 := (World.ownsRow.cellAt v1 (p * 3 + 2) (by omega)).trans (nodeC_at hp).2.2
        have v5 := World.ownsRow.frozenAt v1 (p * 3 + 2)
        refine hK.out _ _ v3 (fun hH5 => ?_)
        clear hK K
        try simp only [List.getElem_toArray, List.getElem_cons_zero, List.getElem_cons_succ, Act.put, List.setIfInBounds_toArray, List.set_cons_zero, List.set_cons_succ]
        refine wpAnyH_take (i := 16) (v := (.pointer (some ⟨x'.r, p * 3, none⟩))) rfl (by kernel_rfl) (by kernel_rfl) (by kernel_rfl) (fun _ _ _ h => h) (Or.inl ⟨by rfl, by (intro w hSw; have q1 := hSw; go_simp)⟩) hH5 ?_
        try simp only [List.getElem_toArray, List.getElem_cons_zero, List.getElem_cons_succ, Act.put, List.setIfInBounds_toArray, List.set_cons_zero, List.set_cons_succ]
        refine wpAnyH_take (i := 17) (v := (.pointer (some ⟨x'.r, p * 3 + 2, none⟩))) rfl (by kernel_rfl) (by kernel_rfl) (by kernel_rfl) (fun _ _ _ h => h) (Or.inl ⟨by rfl, by (intro w hSw; have q1 := hSw; go_simp)⟩) hH5 ?_
        try simp only [List.getElem_toArray, List.getElem_cons_zero, List.getElem_cons_succ, Act.put, List.setIfInBounds_toArray, List.set_cons_zero, List.set_cons_succ]
        refine wpAnyH_ready (rs := [18]) (by kernel_rfl) (by simp) ?_
        refine AllReadyH.cons rfl (fun K hK => ?_) AllReadyH.nil
        go_simp
        refine hK.out _ _ (v2n v2) (fun hH6 => ?_)
        clear hK K
        try simp only [List.getElem_toArray, List.getElem_cons_zero, List.getElem_cons_succ, Act.put, List.setIfInBounds_toArray, List.set_cons_zero, List.set_cons_succ]
        refine wpAnyH_done (by kernel_rfl) ?_ _
        go_end0
        exact ⟨rfl, HEND.out E2 d2 w5 (by unfold OwnI; rw [List.map_append]; exact k1) k2 k3 k4⟩
      · go_simp
        refine hK.out _ _ c0a (fun hH2 => ?_)
        clear hK K
        try simp only [List.getElem_toArray, List.getElem_cons_zero, List.getElem_cons_succ, Act.put, List.setIfInBounds_toArray, List.set_cons_zero, List.set_cons_succ]
        refine wpAnyH_ready (rs := [12]) (by kernel_rfl) (by simp) ?_
        refine AllReadyH.cons rfl (fun K hK => ?_) AllReadyH.nil
        go_simp
        refine hK.out _ _ c0a (fun hH3 => ?_)
        clear hK K
        try simp only [List.getElem_toArray, List.getElem_cons_zero, List.getElem_cons_succ, Act.put, List.setIfInBounds_toArray, List.set_cons_zero, List.set_cons_succ]
        refine wpAnyH_ready (rs := [15]) (by kernel_rfl) (by simp) ?_
        refine AllReadyH.cons rfl (fun K hK => ?_) AllReadyH.nil
        refine step_put rfl (.tmp 72) (.tmp 74) 23 rfl w0 w0.heap.size 3 j0 _ 1 8 Try.underlying23 hj0 hy0 hy1 hy2 rfl (by decide) _ _ _ _ rfl HED #[.int .i64 k0] rfl (by simp [Value.oneCell']) rfl (by unfold maxLen; omega) (by omega) hxd (Nat.le_refl _) hxd.hsize ?_
        intro E2 d2 w5 k1 k2 k3 k4
        obtain ⟨v1, v2⟩ := HBS.out w5 k2
        have v3 := (v2.cell 0).trans (rfl : _ = some (Value.slice (some ⟨x'.r, 0, none⟩) t'.N x'.c))
        have v4 := (World.ownsRow.cellAt v1 (p * 3 + 2) (by omega)).trans (nodeC_at hp).2.2
        have v5 := World.ownsRow.frozenAt v1 (p * 3 + 2)
        refine hK.out _ _ v3 (fun hH5 => ?_)
        clear hK K
        try simp only [List.getElem_toArray, List.getElem_cons_zero, List.getElem_cons_succ, Act.put, List.setIfInBounds_toArray, List.set_cons_zero, List.set_cons_succ]
        refine wpAnyH_take (i := 16) (v := (.pointer (some ⟨x'.r, p * 3, none⟩))) rfl (by kernel_rfl) (by kernel_rfl) (by kernel_rfl) (fun _ _ _ h => h) (Or.inl ⟨by rfl, by (intro w hSw; have q1 := hSw; go_simp)⟩) hH5 ?_
        try simp only [List.getElem_toArray, List.getElem_cons_zero, List.getElem_cons_succ, Act.put, List.setIfInBounds_toArray, List.set_cons_zero, List.set_cons_succ]
        refine wpAnyH_take (i := 17) (v := (.pointer (some ⟨x'.r, p * 3 + 2, none⟩))) rfl (by kernel_rfl) (by kernel_rfl) (by kernel_rfl) (fun _ _ _ h => h) (Or.inl ⟨by rfl, by (intro w hSw; have q1 := hSw; go_simp)⟩) hH5 ?_
        try simp only [List.getElem_toArray, List.getElem_cons_zero, List.getElem_cons_succ, Act.put, List.setIfInBounds_toArray, List.set_cons_zero, List.set_cons_succ]
        refine wpAnyH_ready (rs := [18]) (by kernel_rfl) (by simp) ?_
        refine AllReadyH.cons rfl (fun K hK => ?_) AllReadyH.nil
        go_simp
        refine hK.out _ _ (v2n v2) (fun hH6 => ?_)
        clear hK K
        try simp only [List.getElem_toArray, List.getElem_cons_zero, List.getElem_cons_succ, Act.put, List.setIfInBounds_toArray, List.set_cons_zero, List.set_cons_succ]
        refine wpAnyH_done (by kernel_rfl) ?_ _
        go_end0
        exact ⟨rfl, HEND.out E2 d2 w5 (by unfold OwnI; rw [List.map_append]; exact k1) k2 k3 k4⟩
end Go.Proofs.Ytdkjkcegchohfaa
