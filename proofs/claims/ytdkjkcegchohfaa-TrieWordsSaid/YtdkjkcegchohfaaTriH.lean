/-
  List: the words behind a beginning, rising.
-/
import Derived.Test.YtdkjkcegchohfaaTriG
import Derived.Maps.OwnIn
import Derived.Maps.AppendAt
import Derived.RangeFuncBox
import Derived.Deep.RegionLaw
namespace Go.Proofs.Ytdkjkcegchohfaa
open Go.RowKit
set_option linter.unusedVariables false
set_option linter.unusedSimpArgs false
attribute [local go_sem] Oper.semAt_some

theorem own_nocapT {w : World} {base e z n c : Nat} {A : Option Addr} {xs : List Value} (h : Own w base e z A n c xs) : A = none → c = 0 := by
  rintro rfl
  rcases h.2 with ⟨hv, _⟩ | ⟨g', cap, cur, hv, _⟩
  · injection hv
  · injection hv with h1; cases h1
theorem got_push {g base : Nat} {pre : List (List Int)} {x : List Int} {W W2 : World} {A B A' : Option Addr} {k c m d c' : Nat} {xs : List Value} (hb : Blk W g 22 #[.slice A k c]) (h1 : Own W base 23 1 A k c xs) (h2 : LnO W base (Value.slice A k c).ownBlock xs pre)
    (hO : OwnI W base B m d x) (hB : B = none → d = 0) (hm : m ≤ 24) (hnm : ∀ j, (Value.slice B m d).ownBlock = some j → ¬ Mine g W j) (hgb : g < base)
    (k1 : Own W2 base 23 1 A' (k + 1) c' (xs ++ [.slice B m d])) (k2 : (W.alloc (.cells #[.slice B m d] 23)).grownBy W2 (Value.slice A k c).ownBlock)
    (k3 : (Value.slice A' (k + 1) c').ownBlock = (Value.slice A k c).ownBlock ∨ (Value.slice A' (k + 1) c').ownBlock = some (W.alloc (.cells #[.slice B m d] 23)).heap.size) :
    Got g base (pre ++ [x]) (W2.setCell ⟨g, 0, none⟩ (.slice A' (k + 1) c')) ∧ Kp (Mine g) W (W2.setCell ⟨g, 0, none⟩ (.slice A' (k + 1) c')) := by
  have e := Ext.alloc W (.cells #[.slice B m d] 23)
  have hc0 : W.cell? ⟨g, 0, none⟩ = some (.slice A k c) := by rw [hb.cell 0]; rfl
  have hrow : ∀ j, (Value.slice A k c).ownBlock = some j → Mine g W j := fun j hj => .inr ⟨A, k, c, hc0, hj⟩
  have hne1 : (Value.slice B m d).ownBlock = none ∨ (Value.slice B m d).ownBlock ≠ (Value.slice A k c).ownBlock := by
    cases hq : (Value.slice B m d).ownBlock with
    | none => exact .inl rfl
    | some j => exact .inr (fun e => hnm j hq (hrow j e.symm))
  have hne2 : (Value.slice B m d).ownBlock = none ∨ (Value.slice B m d).ownBlock ≠ (Value.slice A' (k + 1) c').ownBlock := by
    rcases k3 with k3 | k3
    · rw [k3]; exact hne1
    · rw [k3]
      cases hq : (Value.slice B m d).ownBlock with
      | none => exact .inl rfl
      | some j => exact .inr (fun e2 => by injection e2 with e2; have := (Own.blk hO j hq).2; have := e.hsize; omega)
  have hgrow : some g ≠ (Value.slice A k c).ownBlock := fun e2 => by have := (Own.blk h1 g e2.symm).1; omega
  have hL : LnsO W2 base A' (k + 1) c' (pre ++ [x]) := by
    refine ⟨_, k1, ?_, own_nocapT k1⟩
    refine LnO.snoc (LnO.grown (h2.ext e) k2 ?_) ⟨B, m, d, rfl, Own.kept (hO.ext e) k2 hne1, hB, by omega⟩ hne2
    rcases k3 with k3 | k3
    · exact .inl k3
    · exact .inr ⟨_, Nat.le_refl _, k3⟩
  have hb2 : Blk W2 g 22 #[.slice A k c] := (hb.ext e).grown k2 hgrow
  have hb3 : Blk (W2.setCell ⟨g, 0, none⟩ (.slice A' (k + 1) c')) g 22 #[.slice A' (k + 1) c'] := by simpa using hb2.set_ 0 (.slice A' (k + 1) c')
  refine ⟨⟨A', k + 1, c', hb3, hL.setCell (p := ⟨g, 0, none⟩) hgb _⟩, ?_⟩
  have hsc : ∀ j, j ≠ g → (W2.setCell ⟨g, 0, none⟩ (.slice A' (k + 1) c')).heap[j]? = W2.heap[j]? := fun j hj => Below.heap_setCell W2 ⟨g, 0, none⟩ _ j hj
  refine ⟨k2.os, k2.tape, k2.output, by have := k2.size; simp at this ⊢; omega, fun j hj hnj => ?_⟩
  have hjg : j ≠ g := fun e2 => hnj (.inl e2)
  refine ⟨?_, ?_⟩
  · rw [hsc j hjg, k2.block j (Nat.lt_of_lt_of_le hj e.hsize) (fun e2 => hnj (hrow j e2.symm))]
    exact Below.block e j hj
  · rintro (h' | ⟨A2, n2, c2, hc, hq⟩)
    · exact hjg h'
    · rw [hb3.cell 0] at hc
      simp at hc
      obtain ⟨rfl, rfl, rfl⟩ := hc
      rcases k3 with k3 | k3
      · rw [k3] at hq; exact hnj (hrow j hq)
      · rw [k3] at hq; injection hq with hq; have := e.hsize; omega

theorem leaves_mark {P : Program} {fn : Func} {tmps : Array Value} {R : Ending → World → Prop} {ds : List Deferred} {W : World} {D : Nat} (hD : W.heap[D]? = some (.deferred (some []))) (h : LeavesInM Fence.wide 3 P fn tmps R ds .returning (W.putObj D (.deferred none))) :
    LeavesInM Fence.wide 3 P fn tmps R ({ target := .collected D, args := #[] } :: ds) .returning W := ⟨by simp, .inl ⟨D, _, rfl, run_takeDeferred hD, h⟩⟩
theorem kp_ext {g base : Nat} {w0 w W : World} (h0 : Ext w0 w) (hg : w0.heap.size ≤ g) (hgot : Got g base [] w) (hb : w0.heap.size ≤ base) (hk : Kp (Mine g) w W) : Ext w0 W :=
  ⟨hk.os.trans (Below.os h0), hk.tape.trans (Below.tape h0), hk.output.trans (Below.output h0), Nat.le_trans h0.hsize hk.size, fun j hj => by
    refine (hk.keep j (Nat.lt_of_lt_of_le hj h0.hsize) (fun hm => ?_)).1.trans (Below.block h0 j hj)
    rcases hgot.mine_lt hm with h | ⟨h, _⟩ <;> omega⟩
theorem pre_lenT {pre all : List (List Int)} {x : List Int} (h : pre ++ [x] <+: all) : pre.length + 1 ≤ all.length := by have := h.length_le; simpa using this
theorem info_slT : (Try.prog.info? 23).map (fun i => (i.zero, i.size, i.bytes)) = some (some (.slice none 0 0), 1, 24) := by kernel_rfl

theorem list_start (w : World) (most : Int) : Ext w ((w.alloc (.cells #[.int .i64 most] 3)).alloc (.cells #[.slice none 0 0] 22)) ∧ Blk ((w.alloc (.cells #[.int .i64 most] 3)).alloc (.cells #[.slice none 0 0] 22)) w.heap.size 3 #[.int .i64 most] ∧
    Blk ((w.alloc (.cells #[.int .i64 most] 3)).alloc (.cells #[.slice none 0 0] 22)) (w.heap.size + 1) 22 #[.slice none 0 0] := by
  refine ⟨(Ext.alloc w _).to_alloc _, Blk.ext (Blk.new w _ _) (Ext.alloc _ _), ?_⟩
  have := Blk.new (w.alloc (.cells #[.int .i64 most] 3)) 22 #[.slice none 0 0]
  simpa using this

set_option maxRecDepth 100000 in
set_option maxHeartbeats 4000000 in
theorem tlist_ok {S : List (List Int)} {b0 K n c : Nat} {ns : List Int → TrN} {A : Option Addr} {q : List Int} {most : Int} {w : World} (hmost : 1000 < most) (hS : ∀ x ∈ S, x.length ≤ 24) (hwf : ∀ x ∈ S, ∀ y ∈ x, (Lit.int .i64 y).wf = true) (hK : K ≤ 100000) (hT : TrIs w b0 K (FS S) ns)
    (hq : Ints w A n c q) (hA : A = none → c = 0) (hn8 : n * 8 ≤ 140737488355328) (hwq : ∀ y ∈ q, (Lit.int .i64 y).wf = true) (hlen : (eachF S (kidsS S) 25 q).length ≤ 1000) :
    Calls Try.prog 29 #[(ns []).ptr, .slice A n c, .int .i64 most] w fun e w' => ∃ B k d, e = .returned (.slice B k d) ∧ LnsO w' w.heap.size B k d (eachF S (kidsS S) 25 q) ∧ Ext w w' := by
  obtain ⟨all, hall⟩ : ∃ all, eachF S (kidsS S) 25 q = all := ⟨_, rfl⟩
  rw [hall] at hlen ⊢
  have HALL := Lib.hid hall
  have HT := Lib.hid hT
  have HQ := Lib.hid hq
  have HWF := Lib.hid hwf
  have HWQ := Lib.hid hwq
  have HS := Lib.hid hS
  have HA := Lib.hid hA
  obtain ⟨i0, hi, hz0, hz1, hz2⟩ := info_parts info_slT
  have HI := Lib.hid hi
  clear hi
  clear hall hT hq hwf hwq hS hA
  obtain ⟨hx0, hm0, hg0⟩ := list_start w most
  have hWd := words_ok ns A n c ((w.alloc (.cells #[.int .i64 most] 3)).alloc (.cells #[.slice none 0 0] 22))
  unfold TrN.ptr at hWd ⊢
  refine (callsIn_wide (n := 3)).1 (callsIn_of_wp_marks Try.func29 rfl trivial ((wpIn_wide (n := 3)).2 ?_) rfl)
  simp only [Try.ntmps29, List.size_toArray, List.length_cons, List.length_nil, Nat.reduceAdd, Nat.reduceSub, Array.replicate_succ, Array.replicate_zero, List.push_toArray, List.append_toArray, List.nil_append, List.cons_append]
  go_wp2_with fail
  generalize hw1 : ((w.alloc (.cells #[.int .i64 most] 3)).alloc (.cells #[.slice none 0 0] 22)) = w1 at *
  refine hWd.mono ?_
  rintro e w2 ⟨hw2, rfl⟩
  have hs1 : w1.heap.size = w.heap.size + 2 := by rw [← hw1]; simp
  have hx2 : Ext w1 w2 := by rw [hw2]; exact (Ext.alloc _ _).to_alloc _
  have cb1 : w2.cell? ⟨w1.heap.size, 0, none⟩ = some (.pointer (some ⟨(ns []).a, 0, none⟩)) := by
    rw [hw2]
    have := Blk.ext (Blk.new w1 58 #[.pointer (some ⟨(ns []).a, 0, none⟩)]) (Ext.alloc _ (.cells #[.slice A n c] 23))
    rw [this.cell 0]; rfl
  have cb2 : w2.cell? ⟨w1.heap.size + 1, 0, none⟩ = some (.slice A n c) := by
    rw [hw2]
    have := Blk.new (w1.alloc (.cells #[.pointer (some ⟨(ns []).a, 0, none⟩)] 58)) 23 #[.slice A n c]
    have h2 : Blk ((w1.alloc (.cells #[.pointer (some ⟨(ns []).a, 0, none⟩)] 58)).alloc (.cells #[.slice A n c] 23)) (w1.heap.size + 1) 23 #[.slice A n c] := by simpa using this
    rw [h2.cell 0]; rfl
  have hx12 := hx0.trans hx2
  have hT2 := Lib.hid (HT.out.ext hx12)
  have hgc := hg0.ext hx2
  have hmc := hm0.ext hx2
  have hs2 := hx2.hsize
  have HX12 := Lib.hid hx12
  have hs3 : w.heap.size + 2 ≤ w2.heap.size := by omega
  clear hWd hw2 hw1 hx0 hx2 hx12 hs1 hs2
  go_wp2_with fail
  refine wp_words (w0 := w) (S := S) (b0 := b0) (K := K) (b1 := w1.heap.size) (b2 := w1.heap.size + 1) (g := w.heap.size + 1) (ns := ns) (A := A) (n := n) (c := c) (q := q) (all := all) rfl rfl HS.out HWF.out hK hT2.out HQ.out HA.out hn8 HWQ.out HX12.out (Nat.le_succ _) cb1 cb2 hgc HALL.out
    (fun v => { tmps := #[.pointer (some ⟨(ns []).a, 0, none⟩), .slice A n c, .int .i64 most, undef, undef, .pointer (some ⟨w.heap.size, 0, none⟩), .slice none 0 0, .pointer (some ⟨w.heap.size + 1, 0, none⟩), v, .pointer (some ⟨(ns []).a, 0, none⟩), .slice A n c, .func (.func 55) #[] #[.pointer (some ⟨w1.heap.size, 0, none⟩), .pointer (some ⟨w1.heap.size + 1, 0, none⟩)], v, undef, undef, undef, undef, undef, undef, undef, undef, undef], defers := [] }) ?assign ?body ?done
  case assign =>
    intro l v W Kk hK
    gi_wp2
    exact hK
  case body =>
    intro l pre x B m d W hgot hO hB hm hnm hkp hsW hpre
    obtain ⟨A3, k3, c3, hb3, xs, hL1, hL2, hL3⟩ := hgot
    have hk3 : k3 = pre.length := by have h1 := Own.len hL1; have h2 := hL2.1; omega
    have hkl : k3 + 1 ≤ 1000 := by have := pre_lenT hpre; omega
    have cg : W.cell? ⟨w.heap.size + 1, 0, none⟩ = some (.slice A3 k3 c3) := by rw [hb3.cell 0]; rfl
    have cm : W.cell? ⟨w.heap.size, 0, none⟩ = some (.int .i64 most) := by
      have h1 := (hkp.keep w.heap.size (by omega) (fun h => by
        rcases h with h | ⟨A', n', c', h, h'⟩
        · omega
        · rw [hgc.cell 0] at h
          simp at h
          obtain ⟨rfl, rfl, rfl⟩ := h
          simp [Value.ownBlock] at h')).1
      rw [World.cell?_of_block h1, hmc.cell 0]; rfl
    have hle : ¬ (most ≤ (k3 : Int)) := by omega
    have hfz := hb3.frozen 0
    have HB3 := Lib.hid hb3
    have HL2 := Lib.hid hL2
    have HO := Lib.hid hO
    have HNM := Lib.hid hnm
    have hown := Own.ext hL1 (Ext.alloc W (.cells #[.slice B m d] 23))
    have HL1 := Lib.hid hL1
    have HBn := Lib.hid hB
    clear hb3 hL2 hO hnm hL1 hB hpre hkp hk3 hmost
    gi_wp2_with ((gi_at_builtin; refine (fun (h : True → _) => h trivial) ?_))
    intro _
    refine wpListIn_append_own_at _ rfl (.tmp 17) (.tmp 19) 22 rfl (w2.heap.size + 2) 23 i0 (.slice none 0 0) 1 24 Try.underlying22 HI.out hz0 hz1 hz2 rfl (by decide) _ _ _ rfl hown ⟨W.heap.size, 0, none⟩ 1 1 [.slice B m d] rfl rfl (cell_one_new _ _ _) (by simp [Value.oneCell']) (by unfold maxLen; omega) (by omega) (by simp; omega) ?_
    intro v' W2 k1 k2 _ k3'
    obtain ⟨g', cap', rfl⟩ := ownsRow_succ k1
    have hgp := got_push HB3.out HL1.out HL2.out HO.out HBn.out hm HNM.out (by omega) k1 k2 k3'
    have hb2 := (HB3.out.ext (Ext.alloc W (.cells #[.slice B m d] 23))).grown k2 (fun e2 => by have := (Own.blk HL1.out _ e2.symm).1; omega)
    have cg2 : W2.cell? ⟨w.heap.size + 1, 0, none⟩ = some (.slice A3 k3 c3) := by rw [hb2.cell 0]; rfl
    have fg2 := hb2.frozen 0
    have HGP := Lib.hid hgp
    clear k1 k2 k3' hgp hb2 cg cm hfz hown
    gi_wp2
    exact HGP.out
  case done =>
    intro W hgot hkp hD
    obtain ⟨A3, k3, c3, hb3, hL3⟩ := hgot
    have cg : W.cell? ⟨w.heap.size + 1, 0, none⟩ = some (.slice A3 k3 c3) := by rw [hb3.cell 0]; rfl
    have hE : Ext w W := kp_ext (base := w2.heap.size + 2) HX12.out (Nat.le_succ _) ⟨none, 0, 0, hgc, LnsO.nil _ _⟩ (by omega) hkp
    have HE := Lib.hid hE
    have HL3 := Lib.hid hL3
    clear hkp hb3 hL3 hE
    go_wp2_with fail
    refine leaves_mark hD ⟨.slice A3 k3 c3, ?_, A3, k3, c3, rfl, ?_, ?_⟩
    · simp [results, Try.results29, go_sem]
      try rfl
    · exact LnsO.lower (HL3.out.low (putObj_grown W _ _) (by omega)) (by omega)
    · exact Below.grown HE.out (putObj_grown W _ _) HE.out.hsize (fun k e => by injection e with e; omega)
end Go.Proofs.Ytdkjkcegchohfaa
