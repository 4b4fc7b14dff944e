/-
  The walk of UtfOne.
-/
import Derived.Test.YtbgegkagnahlpaaUtfB
namespace Go.Proofs.Ytbgegkagnahlpaa
open Go.RowKit
set_option linter.unusedVariables false
set_option linter.unusedSimpArgs false

theorem nums_to (s : ByteArray) (k : Nat) : nums (s.extract 0 k) = (nums s).take k := by
  unfold nums
  rw [ByteArray.data_extract]
  simp only [Array.toList_extract, List.extract, List.drop_zero, Nat.sub_zero, ← List.map_take]
theorem one_lit (w : World) : Calls Try.prog 14 #[.string ⟨#[97, 255]⟩] w fun e w' => ∃ A q c, e = .returned (.tuple #[.slice A q c, .int .i64 1, .int .i64 4]) ∧ Ext w w' := by
  have h := all_ok (s := ⟨#[97, 255]⟩) (w := w) (by decide) (by decide +kernel)
  have e1 : allW (ByteArray.size ⟨#[97, 255]⟩) (nums ⟨#[97, 255]⟩) = 1 := by decide +kernel
  have e2 : allE (ByteArray.size ⟨#[97, 255]⟩) (nums ⟨#[97, 255]⟩) = 4 := by decide +kernel
  rw [e1, e2] at h
  exact h.mono fun e w' ⟨A, q, c, l, h1, _, _, _, h2⟩ => ⟨A, q, c, h1, h2⟩
theorem all_any {s : ByteArray} {w : World} (hs : s.size ≤ 1048576) :
    Calls Try.prog 14 #[.string s] w fun e w' => ∃ A q c l, e = .returned (.tuple #[.slice A q c, .int .i64 (allW s.size (nums s)), .int .i64 (allE s.size (nums s))]) ∧ Ints w' A q c l ∧
      (allE s.size (nums s) = 0 → l = allL s.size (nums s)) ∧ (allE s.size (nums s) ≠ 0 → l = []) ∧ Ext w w' := by
  have k := all_is s.size (nums s) (nums_lt s) (by rw [nums_len]; exact Nat.le_refl _)
  have k1 := k.2.1
  have k2 := k.2.2.2.1
  rw [nums_len] at k1
  exact all_ok (by omega) (by omega)

set_option maxRecDepth 20000 in
set_option maxHeartbeats 4000000 in
theorem utfOne_walk {s : ByteArray} {w : World} (hs : s.size ≤ 1048576) :
    Calls Try.prog 5 #[.string s] w fun e w' => e = .returned (.bool true) ∧ Ext w w' := by
  have H1 := Lib.hid (one_lit w)
  have HA : Hid (∀ wq : World, _) := Lib.hid fun (wq : World) => all_any (s := s) (w := wq) hs
  obtain ⟨k1, k2, k3, k4, k5, k6⟩ := all_is s.size (nums s) (nums_lt s) (by rw [nums_len]; exact Nat.le_refl _)
  rw [nums_len] at k2 k5
  have HK := Lib.hid (And.intro k1 (And.intro k3 (And.intro k4 (And.intro k5 k6))))
  have HG : Hid (∀ (k : Nat) (wq : World), Calls Try.prog 11 #[.string (s.extract k s.size)] wq fun e w' => e = .returned (.tuple #[.int .i64 (getC ((nums s).drop k)), .int .i64 (getW ((nums s).drop k)), .int .i64 (getE ((nums s).drop k))]) ∧ wq = w') :=
    Lib.hid fun k wq => by have h := get_ok (s.extract k s.size) wq; rw [nums_from] at h; exact h
  have HT : Hid (∀ wq : World, Calls Try.prog 14 #[.string (s.extract 0 (allW s.size (nums s)))] wq fun e w' => ∃ A q c z, e = .returned (.tuple #[.slice A q c, .int .i64 z, .int .i64 0]) ∧ Ext wq w') := Lib.hid fun wq => by
    have hsz : (s.extract 0 (allW s.size (nums s))).size = (encL (allL s.size (nums s))).length := by rw [← nums_len, nums_to, k3]
    have hn : nums (s.extract 0 (allW s.size (nums s))) = encL (allL s.size (nums s)) := by rw [nums_to, k3]
    have hle : (encL (allL s.size (nums s))).length ≤ s.size := by rw [← k3, List.length_take, nums_len]; omega
    have h := all_any (s := s.extract 0 (allW s.size (nums s))) (w := wq) (by rw [hsz]; omega)
    have he := (all_enc (allL s.size (nums s)) (s.extract 0 (allW s.size (nums s))).size k1 (by rw [hsz]; exact encL_ge _)).2.1
    rw [hn] at h
    rw [he] at h
    exact h.mono fun e w' ⟨A, q, c, l, h1, _, _, _, h2⟩ => ⟨A, q, c, _, h1, h2⟩
  have HSame : Hid (allE s.size (nums s) = 0 → strN (encL (allL s.size (nums s))) = s ∧ allW s.size (nums s) = s.size) := Lib.hid fun h => by
    have h2 := k5 h
    rw [h2, List.take_of_length_le (by rw [nums_len]; exact Nat.le_refl _)] at k3
    exact ⟨by rw [← k3, strN_nums], h2⟩
  have HE2 : Hid (allE s.size (nums s) ≠ 0 → getE ((nums s).drop (allW s.size (nums s))) = allE s.size (nums s)) := Lib.hid k6
  clear k1 k3 k4 k5 k6
  generalize hL : allL s.size (nums s) = L at *
  generalize hW : allW s.size (nums s) = ww at *
  generalize hE : allE s.size (nums s) = ee at *
  clear hL hW hE
  go_enter Try.func5, Try.ntmps5
  go_wp2_with fail
  refine H1.out.mono ?_
  rintro e w1 ⟨A1, q1, c1, rfl, he1⟩
  clear H1
  go_wp2_with fail
  refine (HA.out _).mono ?_
  rintro e w2 ⟨A2, q2, c2, l2, rfl, i2, g1, g2, he2⟩
  have hx2 := he1.trans he2
  clear HA he1 he2
  by_cases h0 : ee = 0
  · subst h0
    obtain rfl := g1 rfl
    obtain ⟨e1, rfl⟩ := HSame.out rfl
    have hll := i2.len
    have HTx := Lib.hid (text_walk i2 (by have := HK.out.2.2.1; omega))
    have HSc := Lib.hid HK.out.1
    rw [e1] at HTx
    clear i2 g1 g2 HG HT HE2 HSame HK hll e1
    go_wp2_with fail
    refine HTx.out.mono ?_
    rintro e w3 ⟨k1, _, he3⟩
    obtain rfl := k1 HSc.out
    have hend := hx2.trans he3
    clear HTx k1 HSc
    go_wp2_with fail
    go_ret
    exact ⟨rfl, hend⟩
  · have h0i : ((ee : Int) == 0) = false := by simp; omega
    obtain rfl := g2 h0
    obtain rfl : 0 = q2 := i2.len
    have HGk := Lib.hid (HG.out ww)
    rw [HE2.out h0] at HGk
    have hwi : (ww : Int) ≤ (s.size : Int) := by omega
    clear i2 g1 g2 HG HE2 HSame HK h0
    generalize getC ((nums s).drop ww) = gc at *
    generalize getW ((nums s).drop ww) = gw at *
    go_wp2_with fail
    refine (HT.out _).mono ?_
    rintro e w3 ⟨A3, q3, c3, z3, rfl, he3⟩
    have hend := hx2.trans he3
    clear HT hx2 he3
    go_wp2_with fail
    refine (HGk.out _).mono ?_
    rintro e w' ⟨rfl, rfl⟩
    go_wp2_with fail
    go_ret
    exact ⟨rfl, hend⟩
end Go.Proofs.Ytbgegkagnahlpaa
