/-
  near.New: the tree of the words.
-/
import Derived.Test.YtdkjkcegchohfaaNbP
import Derived.Test.YtdkjkcegchohfaaHisM
namespace Go.Proofs.Ytdkjkcegchohfaa
open Go.RowKit
set_option linter.unusedVariables false
set_option linter.unusedSimpArgs false
attribute [local go_sem] Oper.semAt_some

theorem BkIs.one {w : World} {b0 : Nat} {W : List Int} {x : BkN} (hxb : b0 ≤ x.m) (hx1 : Blk w x.a 86 #[.slice x.A x.n x.c, .int .i64 0, .map (some x.m)]) (hx2 : Ints w x.A x.n x.c W) (hx3 : MapO w x.m 0 (fun _ => none)) (hn : x.n ≤ 24) :
    BkIs w b0 (BK.one W) (fun _ => x) :=
  ⟨by simp [BK.one], by simp [BK.one], fun _ _ => hn, fun i hi => by
    have : i = 0 := by simp [BK.one] at hi; exact hi
    subst this
    refine ⟨hxb, hx1, ?_, ?_⟩
    · have : (BK.one W).W 0 = W := by simp [BK.one, BK.W]
      rw [this]; exact hx2
    · exact hx3.mono (by simp), fun i j hi hj _ => by simp [BK.one] at hi hj; omega⟩

/-- Words that near.New takes. -/
def GoodW (ls : List (List Int)) : Prop := 1 ≤ ls.length ∧ ls.length ≤ 100 ∧ ∀ i, i < ls.length → (gL ls i).length ≤ 24
theorem take_gL {ls : List (List Int)} {j : Nat} (h : j < ls.length) : ls.take j ++ [gL ls j] = ls.take (j + 1) := by
  rw [List.take_add_one]
  simp [gL, h]

set_option maxRecDepth 20000 in
set_option maxHeartbeats 1000000 in
theorem new_ok {A : Option Addr} {n c : Nat} {ls : List (List Int)} {w : World} (hl : Lns w A n c ls) :
    Calls Try.prog 18 #[.slice A n c] w fun e w' => Ext w w' ∧ ((¬ GoodW ls ∧ ∃ k : Int, k ≠ 0 ∧ e = .returned (.tuple #[.pointer none, .int .i64 k])) ∨
      (GoodW ls ∧ ∃ t ns, t.Ok ∧ t.ws = ls ∧ BkIs w' w.heap.size t ns ∧ e = .returned (.tuple #[(ns 0).ptr, .int .i64 0]))) := by
  have hnl := hl.len
  have HL := Lib.hid hl
  have hnc := hl.ncap
  have hcm := hl.nmax
  have HGn : Hid (GoodW ls → 1 ≤ n ∧ n ≤ 100) := Lib.hid (fun h => by have := h.1; have := h.2.1; omega)
  have HGb : Hid (∀ i, i < n → 24 < (gL ls i).length → ¬ GoodW ls) := Lib.hid (fun i hi h1 h2 => by have := h2.2.2 i (by omega); omega)
  have hmm := @run_makeMap Try.prog
  unfold maxLen at hcm
  clear hl
  by_cases h0 : n < 1
  · have HN : Hid (¬ GoodW ls) := Lib.hid (fun h => by have := HGn.out h; omega)
    go_enter Try.func18, Try.ntmps18
    go_wp2_with fail
    go_ret2
    exact ⟨Ext.refl _, .inl ⟨HN.out, 1, by decide, rfl⟩⟩
  by_cases h1 : 100 < n
  · have HN : Hid (¬ GoodW ls) := Lib.hid (fun h => by have := HGn.out h; omega)
    go_enter Try.func18, Try.ntmps18
    go_wp2_with fail
    go_ret2
    exact ⟨Ext.refl _, .inl ⟨HN.out, 2, by decide, rfl⟩⟩
  go_enter Try.func18, Try.ntmps18
  go_wp2_with fail
  go_loopw [4, 15] (fun tv i wr => ∃ j : Nat, j ≤ n ∧ i = .int .i64 j ∧ (∀ k, k < j → (gL ls k).length ≤ 24) ∧ Ext w wr ∧ ((j = 0 ∧ tv = .pointer none) ∨ (0 < j ∧ ∃ t ns, t.Ok ∧ t.ws = ls.take j ∧ BkIs wr w.heap.size t ns ∧ tv = .pointer (some ⟨(ns 0).a, 0, none⟩)))) (fun _ i _ => n + 1 - (intOf i).toNat)
  case atStart => exact ⟨0, by omega, rfl, fun k hk => by omega, Ext.refl _, .inl ⟨rfl, rfl⟩⟩
  case round =>
    obtain ⟨j, hj, rfl, hlow, he, htv⟩ := hrel
    by_cases hlt : j < n
    · obtain ⟨ad, v, rfl, hc, B, m, d, rfl, hi, hBd, hm8⟩ := HL.out.at_ hlt
      have c1 := he.cell hc
      have hml := hi.len
      have HI := Lib.hid hi
      clear hi hc
      by_cases hbig : 24 < m
      · have HN := Lib.hid (HGb.out j hlt (by rw [hml]; exact hbig))
        clear htv
        go_wp2_with fail
        go_ret2
        exact ⟨he, .inl ⟨HN.out, 2, by decide, rfl⟩⟩
      · have hlow' : Hid (∀ k, k < j + 1 → (gL ls k).length ≤ 24) := Lib.hid (fun k hk => by
          rcases Nat.lt_or_ge k j with h | h
          · exact hlow k h
          · have : k = j := by omega
            subst this; omega)
        clear hlow
        rcases htv with ⟨rfl, rfl⟩ | ⟨hj0, t, ns, ho, hws, hb, rfl⟩
        · have c2 := c1
          rw [add_nought] at c2
          go_wp2_with fail
          refine (clone_ok (HI.out.ext he) hBd hm8).mono ?_
          rintro e w1 ⟨D, d', rfl, hO, _, he1⟩
          go_wp2_with fail
          go_roundw
          case rel =>
            have eA := Ext.alloc w1 (.map #[] 0)
            have eB := Ext.alloc (w1.alloc (.map #[] 0)) (.cells #[.slice D m d', .int .i64 0, .map (some w1.heap.size)] 86)
            refine ⟨1, by omega, by go_num, hlow'.out, ((he.trans he1).trans eA).trans eB, .inr ⟨by omega, BK.one (gL ls 0), fun _ => ⟨w1.heap.size + 1, w1.heap.size, D, m, d'⟩, BK.one_ok _, ?_, ?_, ?_⟩⟩
            · rw [← take_gL (show 0 < ls.length by omega)]; rfl
            · refine BkIs.one (he.trans he1).hsize ?_ ((hO.ints.ext eA).ext eB) ((MapO.made w1).ext eB) (by show m ≤ 24; omega)
              have := Blk.new (w1.alloc (.map #[] 0)) 86 #[.slice D m d', .int .i64 0, .map (some w1.heap.size)]
              simpa using this
            · simp
          case measure => simp [intOf]
        · have HT := Lib.hid (And.intro ho (And.intro hws hb))
          have htl : t.ws.length = j := by rw [hws, List.length_take]; omega
          clear ho hws hb
          go_wp2_with fail
          refine (clone_ok (HI.out.ext he) hBd hm8).mono ?_
          rintro e w1 ⟨D, d', rfl, hO, _, he1⟩
          have hp := put_ok (i := 0) (W := gL ls j) t.ws.length (by omega) (by omega) HT.out.1 (HT.out.2.2.ext he1) hO.ints (by omega) (by omega) (he.trans he1)
          rw [htl] at hp
          unfold BkN.ptr at hp
          go_wp2_with fail
          refine hp.mono ?_
          rintro e w2 ⟨rfl, p, x, hpw, hb2, he2⟩
          go_wp2_with fail
          go_roundw
          case rel =>
            refine ⟨j + 1, by omega, by go_num, hlow'.out, he2, .inr ⟨by omega, t.add p (gL ls j), _, HT.out.1.add (by omega) hpw, ?_, hb2, ?_⟩⟩
            · show t.ws ++ [gL ls j] = _
              rw [HT.out.2.1, take_gL (by omega)]
            · rw [nsAdd_old (by omega)]
          case measure => simp [intOf]; omega
    · obtain rfl : j = n := by omega
      rcases htv with ⟨h, _⟩ | ⟨hj0, t, ns, ho, hws, hb, rfl⟩
      · omega
      · go_wp2_with fail
        go_ret2
        have hG : GoodW ls := ⟨by omega, by omega, fun i hi => hlow i (by omega)⟩
        refine ⟨he, .inr ⟨hG, t, ns, ho, ?_, hb, rfl⟩⟩
        rw [hws, ← hnl, List.take_length]
end Go.Proofs.Ytdkjkcegchohfaa
