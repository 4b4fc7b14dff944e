/-
  The walk of FeedCuts.
-/
import Derived.Test.YtbgegkagnahlpaaFeedF
import Derived.Test.YtbgegkagnahlpaaUtfB
namespace Go.Proofs.Ytbgegkagnahlpaa
open Go.RowKit
set_option linter.unusedVariables false
set_option linter.unusedSimpArgs false

/-- A literal row of strings. -/
theorem lit_strs {w : World} (ps : List ByteArray) (hn : ps.length ≤ 16) : Rd (w.alloc (.cells (ps.map Value.string).toArray 9)) 1 (some ⟨w.heap.size, 0, none⟩) ps.length ps.length (ps.map Value.string) := by
  refine ⟨by simp, Nat.le_refl _, by unfold maxLen; omega, fun _ => ⟨_, rfl, fun j u hj => ?_⟩⟩
  have e1 : (⟨w.heap.size, 0, none⟩ : Addr).add j = ⟨w.heap.size, j, none⟩ := by simp [Addr.add_lit]
  rw [e1, (Blk.new w 9 _).cell j]
  simpa using hj
theorem lit3 {w : World} (a b c : ByteArray) : Rd (w.alloc (.cells #[.string a, .string b, .string c] 9)) 1 (some ⟨w.heap.size, 0, none⟩) 3 3 ([a, b, c].map Value.string) := lit_strs (w := w) [a, b, c] (by simp)
theorem lit2 {w : World} (a b : ByteArray) : Rd (w.alloc (.cells #[.string a, .string b] 9)) 1 (some ⟨w.heap.size, 0, none⟩) 2 2 ([a, b].map Value.string) := lit_strs (w := w) [a, b] (by simp)
theorem lit1 {w : World} (a : ByteArray) : Rd (w.alloc (.cells #[.string a] 9)) 1 (some ⟨w.heap.size, 0, none⟩) 1 1 ([a].map Value.string) := lit_strs (w := w) [a] (by simp)
theorem feed_e2 (w : World) : Calls Try.prog 17 #[.string ⟨#[226]⟩, .string ⟨#[130]⟩] w fun e w' => ∃ O d, e = .returned (.tuple #[.string ⟨#[226, 130]⟩, .slice O 0 d, .int .i64 0]) ∧ Ext w w' := by
  have h := feed_ok (ah := [226]) (s := ⟨#[130]⟩) (w := w) (show 2 ≤ whF 226 by decide) (by decide) (by decide)
  have e1 : (mchA [226] (nums ⟨#[130]⟩)).ah = [226, 130] := by decide +kernel
  have e2 : (mchA [226] (nums ⟨#[130]⟩)).out = [] := by decide +kernel
  rw [e1, e2] at h
  refine Calls.mono (show Calls Try.prog 17 #[.string ⟨#[226]⟩, .string ⟨#[130]⟩] w _ from h) ?_
  rintro e w' ⟨O, q, d, rfl, ho, he⟩
  obtain rfl : 0 = q := ho.len
  exact ⟨O, d, rfl, he⟩

theorem cat3 (a b c : ByteArray) : catF [a, b, c] = nums a ++ nums b ++ nums c := by simp [catF]
theorem cat2 (a b c : ByteArray) : catF [a, b ++ c] = nums a ++ nums b ++ nums c := by simp [catF, nums_app]
theorem cat1 (a b c : ByteArray) : catF [a ++ b ++ c] = nums a ++ nums b ++ nums c := by simp [catF, nums_app]

set_option maxRecDepth 20000 in
set_option maxHeartbeats 8000000 in
theorem feedCuts_walk {a b c : ByteArray} {w : World} (ha : a.size ≤ 140737488351232) (hb : b.size ≤ 140737488351232) (hc : c.size ≤ 140737488351232) :
    Calls Try.prog 8 #[.string a, .string b, .string c] w fun e w' => e = .returned (.bool true) ∧ Ext w w' := by
  have HF := Lib.hid (feed_e2 w)
  have HA : Hid (∀ wq, _) := Lib.hid fun wq => fed_walk (lit3 (w := wq) a b c) (by omega)
  have HB : Hid (∀ wq, _) := Lib.hid fun wq => fed_walk (lit1 (w := wq) (a ++ b ++ c)) (by omega)
  have HC : Hid (∀ wq, _) := Lib.hid fun wq => fed_walk (lit2 (w := wq) a (b ++ c)) (by omega)
  have E1 : Hid (fedL [a, b, c] = fedL [a ++ b ++ c]) := Lib.hid (by unfold fedL; rw [cat3, cat1])
  have E2 : Hid (fedL [a, b ++ c] = fedL [a ++ b ++ c]) := Lib.hid (by unfold fedL; rw [cat2, cat1])
  have S1 : Hid ((∀ s ∈ [a, b, c], s.size ≤ 4096) ↔ (a.size ≤ 4096 ∧ b.size ≤ 4096 ∧ c.size ≤ 4096)) := Lib.hid (by simp)
  have S2 : Hid ((∀ s ∈ [a ++ b ++ c], s.size ≤ 4096) ↔ (a.size + b.size + c.size ≤ 4096)) := Lib.hid (by simp [ByteArray.size_append])
  have S3 : Hid ((∀ s ∈ [a, b ++ c], s.size ≤ 4096) ↔ (a.size ≤ 4096 ∧ b.size + c.size ≤ 4096)) := Lib.hid (by simp [ByteArray.size_append])
  by_cases hs : a.size + b.size + c.size ≤ 4096
  · have h1 := S1.out.2 ⟨by omega, by omega, by omega⟩
    have h2 := S2.out.2 hs
    have h3 := S3.out.2 ⟨by omega, by omega⟩
    have HA2 : Hid (∀ wq : World, Calls Try.prog 19 #[.slice (some ⟨wq.heap.size, 0, none⟩) 3 3] (wq.alloc (.cells #[.string a, .string b, .string c] 9)) fun e w' => ∃ O q d, e = .returned (.tuple #[.slice O q d, .bool true]) ∧ Ints w' O q d (fedL [a ++ b ++ c]) ∧ Ext (wq.alloc (.cells #[.string a, .string b, .string c] 9)) w') := Lib.hid fun wq => by
      refine (HA.out wq).mono ?_
      rintro e w' ⟨k1, _, k3⟩
      obtain ⟨O, q, d, k4, k5⟩ := k1 h1
      exact ⟨O, q, d, k4, by rw [← E1.out]; exact k5, k3⟩
    have HB2 : Hid (∀ wq : World, Calls Try.prog 19 #[.slice (some ⟨wq.heap.size, 0, none⟩) 1 1] (wq.alloc (.cells #[.string (a ++ b ++ c)] 9)) fun e w' => ∃ O q d, e = .returned (.tuple #[.slice O q d, .bool true]) ∧ Ints w' O q d (fedL [a ++ b ++ c]) ∧ Ext (wq.alloc (.cells #[.string (a ++ b ++ c)] 9)) w') := Lib.hid fun wq => by
      refine (HB.out wq).mono ?_
      rintro e w' ⟨k1, _, k3⟩
      obtain ⟨O, q, d, k4, k5⟩ := k1 h2
      exact ⟨O, q, d, k4, k5, k3⟩
    have HC2 : Hid (∀ wq : World, Calls Try.prog 19 #[.slice (some ⟨wq.heap.size, 0, none⟩) 2 2] (wq.alloc (.cells #[.string a, .string (b ++ c)] 9)) fun e w' => ∃ O q d, e = .returned (.tuple #[.slice O q d, .bool true]) ∧ Ints w' O q d (fedL [a ++ b ++ c]) ∧ Ext (wq.alloc (.cells #[.string a, .string (b ++ c)] 9)) w') := Lib.hid fun wq => by
      refine (HC.out wq).mono ?_
      rintro e w' ⟨k1, _, k3⟩
      obtain ⟨O, q, d, k4, k5⟩ := k1 h3
      exact ⟨O, q, d, k4, by rw [← E2.out]; exact k5, k3⟩
    clear h1 h2 h3 HA HB HC E1 E2 S1 S2 S3 hs
    generalize fedL [a ++ b ++ c] = L at *
    go_enter Try.func8, Try.ntmps8
    go_wp2_with fail
    refine HF.out.mono ?_
    rintro e w1 ⟨O1, d1, rfl, he1⟩
    clear HF
    go_wp2_with fail
    refine (HA2.out _).mono ?_
    rintro e w2 ⟨O2, q2, d2, rfl, i2, he2⟩
    have hx2 := he1.trans ((Ext.alloc w1 (.cells #[.string a, .string b, .string c] 9)).trans he2)
    clear he1 he2 HA2
    have I2 := Lib.hid i2
    clear i2
    go_wp2_with fail
    refine (HB2.out _).mono ?_
    rintro e w3 ⟨O3, q3, d3, rfl, i3, he3⟩
    have hf := (Ext.alloc w2 (.cells #[.string (a ++ b ++ c)] 9)).trans he3
    have hx3 := hx2.trans hf
    have I2b := Lib.hid (I2.out.ext hf)
    have I3 := Lib.hid i3
    clear hx2 he3 HB2 hf I2 i3
    go_wp2_with fail
    refine (HC2.out _).mono ?_
    rintro e w4 ⟨O4, q4, d4, rfl, i4, he4⟩
    have hf := (Ext.alloc w3 (.cells #[.string a, .string (b ++ c)] 9)).trans he4
    have hx4 := hx3.trans hf
    have i2 := I2b.out.ext hf
    have i3 := I3.out.ext hf
    have HQ := Lib.hid (equal_true i2 i3)
    have I3b := Lib.hid i3
    have I4 := Lib.hid i4
    clear hx3 he4 HC2 hf I2b I3 i2 i3 i4
    go_wp2_with fail
    refine HQ.out.mono ?_
    rintro e w5 ⟨rfl, he5⟩
    have HQ2 := Lib.hid (equal_true (I3b.out.ext he5) (I4.out.ext he5))
    have hx5 := hx4.trans he5
    clear HQ I3b I4 hx4 he5
    go_wp2_with fail
    refine HQ2.out.mono ?_
    rintro e w6 ⟨rfl, he6⟩
    have hend := hx5.trans he6
    clear HQ2
    go_wp2_with fail
    go_ret
    exact ⟨rfl, hend⟩
  · have HB2 : Hid (∀ wq : World, Calls Try.prog 19 #[.slice (some ⟨wq.heap.size, 0, none⟩) 1 1] (wq.alloc (.cells #[.string (a ++ b ++ c)] 9)) fun e w' => e = .returned (.tuple #[.slice none 0 0, .bool false]) ∧ Ext (wq.alloc (.cells #[.string (a ++ b ++ c)] 9)) w') := Lib.hid fun wq => by
      refine (HB.out wq).mono ?_
      rintro e w' ⟨_, k2, k3⟩
      exact ⟨k2 (fun h => hs (S2.out.1 h)), k3⟩
    have HA2 : Hid (∀ wq : World, Calls Try.prog 19 #[.slice (some ⟨wq.heap.size, 0, none⟩) 3 3] (wq.alloc (.cells #[.string a, .string b, .string c] 9)) fun e w' => ∃ O q d z, e = .returned (.tuple #[.slice O q d, .bool z]) ∧ Ext (wq.alloc (.cells #[.string a, .string b, .string c] 9)) w') := Lib.hid fun wq => by
      refine (HA.out wq).mono ?_
      rintro e w' ⟨k1, k2, k3⟩
      by_cases h : ∀ s ∈ [a, b, c], s.size ≤ 4096
      · obtain ⟨O, q, d, k4, k5⟩ := k1 h
        exact ⟨O, q, d, true, k4, k3⟩
      · exact ⟨none, 0, 0, false, k2 h, k3⟩
    have HC2 : Hid (∀ wq : World, Calls Try.prog 19 #[.slice (some ⟨wq.heap.size, 0, none⟩) 2 2] (wq.alloc (.cells #[.string a, .string (b ++ c)] 9)) fun e w' => ∃ O q d z, e = .returned (.tuple #[.slice O q d, .bool z]) ∧ Ext (wq.alloc (.cells #[.string a, .string (b ++ c)] 9)) w') := Lib.hid fun wq => by
      refine (HC.out wq).mono ?_
      rintro e w' ⟨k1, k2, k3⟩
      by_cases h : ∀ s ∈ [a, b ++ c], s.size ≤ 4096
      · obtain ⟨O, q, d, k4, k5⟩ := k1 h
        exact ⟨O, q, d, true, k4, k3⟩
      · exact ⟨none, 0, 0, false, k2 h, k3⟩
    clear HA HB HC E1 E2 S1 S2 S3 hs
    go_enter Try.func8, Try.ntmps8
    go_wp2_with fail
    refine HF.out.mono ?_
    rintro e w1 ⟨O1, d1, rfl, he1⟩
    clear HF
    go_wp2_with fail
    refine (HA2.out _).mono ?_
    rintro e w2 ⟨O2, q2, d2, z2, rfl, he2⟩
    have hx2 := he1.trans ((Ext.alloc w1 (.cells #[.string a, .string b, .string c] 9)).trans he2)
    clear he1 he2 HA2
    go_wp2_with fail
    refine (HB2.out _).mono ?_
    rintro e w3 ⟨rfl, he3⟩
    have hx3 := hx2.trans ((Ext.alloc w2 (.cells #[.string (a ++ b ++ c)] 9)).trans he3)
    clear hx2 he3 HB2
    go_wp2_with fail
    refine (HC2.out _).mono ?_
    rintro e w4 ⟨O4, q4, d4, z4, rfl, he4⟩
    have hx4 := hx3.trans ((Ext.alloc w3 (.cells #[.string a, .string (b ++ c)] 9)).trans he4)
    clear hx3 he4 HC2
    go_wp2_with fail
    go_ret
    exact ⟨rfl, hx4⟩
end Go.Proofs.Ytbgegkagnahlpaa
