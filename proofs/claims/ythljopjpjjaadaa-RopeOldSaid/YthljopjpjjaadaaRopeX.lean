/-
  The walk of rope.At.
-/
import Derived.Test.YthljopjpjjaadaaRopeV
import Derived.Test.YthljopjpjjaadaaRest
import Derived.Deep.LoopGhost
namespace Go.Proofs.Ythljopjpjjaadaa
open Go.RowKit
set_option linter.unusedVariables false
set_option linter.unusedSimpArgs false

theorem gI_left {l m : List Int} {k : Nat} (h : k < l.length) : gI (l ++ m) k = gI l k := by unfold gI; rw [List.getElem?_append_left h]
theorem gI_right {l m : List Int} {k : Nat} (h : l.length ≤ k) : gI (l ++ m) k = gI m (k - l.length) := by unfold gI; rw [List.getElem?_append_right h]
theorem at_left {l r : Tr} {c : Int} {k : Nat} (h : k < l.sz) : gI (Tr.node l c r).toL k = gI l.toL k := by rw [Tr.toL_node, gI_left (by rw [Tr.len]; exact h)]
theorem at_mid {l r : Tr} {c : Int} : gI (Tr.node l c r).toL l.sz = c := by rw [Tr.toL_node, gI_right (by rw [Tr.len]; exact Nat.le_refl _), Tr.len, Nat.sub_self]; rfl
theorem at_right {l r : Tr} {c : Int} {k : Nat} (h : l.sz < k) : gI (Tr.node l c r).toL k = gI r.toL (k - (l.sz + 1)) := by
  rw [Tr.toL_node, gI_right (by rw [Tr.len]; omega), Tr.len, show k - l.sz = (k - (l.sz + 1)) + 1 by omega]; rfl

set_option maxRecDepth 20000 in
set_option maxHeartbeats 4000000 in
theorem at_ok {t : Tr} {a : Option Addr} {k : Nat} {w : World} (h : TreeAt w a t) (hz : t.sz ≤ 8192) (hk : k < t.sz) :
    Calls Try.prog 19 #[.agg #[.pointer a], .int .i64 k] w fun e w' => e = .returned (.tuple #[.int .i64 (gI t.toL k), .int .i64 0]) ∧ Ext w w' := by
  have hx := Ext.alloc w (.cells #[.pointer a] 26)
  have r2 := RB.new h
  have HL := Lib.hid (len_ok r2.2)
  have c2 := r2.1
  have HT := Lib.hid r2.2
  clear r2 h
  have hkI : (k : Int) < (t.sz : Int) := by omega
  have hkd : decide (t.sz ≤ k) = false := by simp; omega
  have hkn : ¬ t.sz ≤ k := by omega
  have hk0 : decide ((k : Int) < 0) = false := by simp
  have HE : Hid (gI t.toL k = gI t.toL k) := Lib.hid rfl
  generalize hX : gI t.toL k = X at *
  rw [← hX] at HE
  have HX := Lib.hid hX
  clear HE hX
  go_enter Try.func19, Try.ntmps19
  go_wp2_with fail
  refine HL.out.mono ?_
  rintro e w1 ⟨rfl, he1⟩
  have c3 := he1.cell c2
  have hx1 := hx.trans he1
  have HT1 := Lib.hid (TreeAt.ext he1 HT.out)
  clear HL c2 HT hx he1
  go_wp2_with fail
  go_loopg [1, 6] t.sz (fun g kv tv wr => ∃ (k : Nat) (b : Option Addr) (T : Tr), kv = .int .i64 k ∧ tv = .pointer b ∧ Hid (T.sz = g) ∧ Hid (TreeAt wr b T) ∧ Hid (k < T.sz) ∧ Hid (T.sz ≤ 8192) ∧ Hid (gI T.toL k = X) ∧ wr = w1)
  case atStart => exact ⟨k, a, t, rfl, rfl, Lib.hid rfl, HT1, Lib.hid hk, Lib.hid hz, HX, rfl⟩
  case round =>
    clear HT1 HX hk hz hkI c3 hkd hkn hk0
    obtain ⟨k, b, T, rfl, rfl, hg, hT, hk, hz, hX, rfl⟩ := hrel
    cases T with
    | nil => exact absurd hk.out (by simp [Tr.sz])
    | node l ch r =>
      obtain ⟨gn, la, ra, rfl, hb, tl, tr⟩ := hT.out
      have c0 := hb.cell 0
      have c1 := hb.cell 1
      have c2 := hb.cell 2
      simp only [List.getElem?_toArray, List.getElem?_cons_zero, List.getElem?_cons_succ] at c0 c1 c2
      have HS := Lib.hid (size_ok tl)
      have HTL := Lib.hid tl
      have HTR := Lib.hid tr
      have hs : l.sz + 1 + r.sz ≤ 8192 := hz.out
      have hk2 : k < l.sz + 1 + r.sz := hk.out
      have hgk : Hid (l.sz + 1 + r.sz = gk) := Lib.hid hg.out
      clear hb tl tr hT hg hk hz
      by_cases h1 : k < l.sz
      · have HX2 : Hid (gI l.toL k = X) := Lib.hid (by rw [← at_left h1]; exact hX.out)
        clear hX
        generalize hls : l.sz = ls at *
        have HLS := Lib.hid hls
        clear hls
        go_wp2_with fail
        refine HS.out.mono ?_
        rintro e w' ⟨rfl, rfl⟩
        go_wp2_with fail
        go_roundg ls
        case rel => exact ⟨k, la, l, rfl, rfl, HLS, HTL, Lib.hid (by rw [HLS.out]; exact h1), Lib.hid (by rw [HLS.out]; omega), HX2, rfl⟩
        case measure => have := hgk.out; omega
      · by_cases h2 : k = l.sz
        · subst h2
          rw [at_mid] at hX
          obtain rfl := hX.out
          generalize l.sz = ls at *
          clear hX
          go_wp2_with fail
          refine HS.out.mono ?_
          rintro e w' ⟨rfl, rfl⟩
          go_wp2_with fail
          go_ret2
          exact ⟨rfl, hx1⟩
        · have h3 : l.sz < k := by omega
          have HX2 : Hid (gI r.toL (k - (l.sz + 1)) = X) := Lib.hid (by rw [← at_right h3]; exact hX.out)
          clear hX
          generalize hls : l.sz = ls at *
          clear hls
          have k2 : ((k : Int) == (ls : Int)) = false := by simp; omega
          go_wp2_with fail
          refine HS.out.mono ?_
          rintro e w' ⟨rfl, rfl⟩
          go_wp2_with fail
          go_roundg r.sz
          case rel => exact ⟨k - (ls + 1), ra, r, by go_num, rfl, Lib.hid rfl, HTR, Lib.hid (by omega), Lib.hid (by omega), HX2, rfl⟩
          case measure => have := hgk.out; omega
end Go.Proofs.Ythljopjpjjaadaa
