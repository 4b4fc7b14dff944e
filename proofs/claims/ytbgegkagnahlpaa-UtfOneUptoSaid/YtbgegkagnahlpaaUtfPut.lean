/-
  The walks of utf.scalar and utf.Put, and the statement on the order of characters.
-/
import Derived.Test.YtbgegkagnahlpaaUtfM
import Derived.Lib.Strings
namespace Go.Proofs.Ytbgegkagnahlpaa
open Go.RowKit
set_option linter.unusedVariables false

set_option maxHeartbeats 400000 in
theorem scalar_yes {c : Int} (h : scal c) (w : World) : Calls Try.prog 20 #[.int .i64 c] w fun e w' => e = .returned (.bool true) ∧ w = w' := by
  obtain ⟨h0, h1, h2⟩ := h
  by_cases h3 : c < 55296
  · clear h2
    go_enter Try.func20, Try.ntmps20
    go_wp2_with fail
    go_ret
    exact ⟨rfl, rfl⟩
  · have h4 : 57343 < c := by omega
    clear h2
    go_enter Try.func20, Try.ntmps20
    go_wp2_with fail
    go_ret
    exact ⟨rfl, rfl⟩
set_option maxHeartbeats 400000 in
theorem scalar_no {c : Int} (h : ¬ scal c) (w : World) : Calls Try.prog 20 #[.int .i64 c] w fun e w' => e = .returned (.bool false) ∧ w = w' := by
  unfold scal at h
  by_cases h0 : 0 ≤ c
  · by_cases h1 : c ≤ 1114111
    · have h3 : ¬ c < 55296 := by omega
      have h4 : ¬ 57343 < c := by omega
      clear h
      go_enter Try.func20, Try.ntmps20
      go_wp2_with fail
      go_ret
      exact ⟨rfl, rfl⟩
    · clear h
      go_enter Try.func20, Try.ntmps20
      go_wp2_with fail
      go_ret
      exact ⟨rfl, rfl⟩
  · clear h
    go_enter Try.func20, Try.ntmps20
    go_wp2_with fail
    go_ret
    exact ⟨rfl, rfl⟩

set_option maxHeartbeats 400000 in
theorem put_yes {c : Nat} (h : scal c) (w : World) : Calls Try.prog 10 #[.int .i64 c] w fun e w' => e = .returned (.tuple #[.string (strN (encN c)), .int .i64 0]) ∧ w = w' := by
  have H := Lib.hid h
  have h1 : c ≤ 1114111 := by have := h.2.1; omega
  clear h
  go_enter Try.func10, Try.ntmps10
  go_wp2_with fail
  refine (scalar_yes H.out _).mono ?_
  rintro e w' ⟨rfl, rfl⟩
  go_wp2_with fail
  go_ret2
  exact ⟨by rw [encode_eq H.out]; rfl, rfl⟩
set_option maxHeartbeats 400000 in
theorem put_no {c : Int} (h : ¬ scal c) (w : World) : Calls Try.prog 10 #[.int .i64 c] w fun e w' => e = .returned (.tuple #[.string ⟨#[]⟩, .int .i64 1]) ∧ w = w' := by
  have H := Lib.hid h
  clear h
  go_enter Try.func10, Try.ntmps10
  go_wp2_with fail
  refine (scalar_no H.out _).mono ?_
  rintro e w' ⟨rfl, rfl⟩
  go_wp2_with fail
  go_ret2
  exact ⟨rfl, rfl⟩
theorem strN_toList (l : List Nat) : (strN l).toList = l.map UInt8.ofNat := by
  rw [Lib.toList_data]; rfl
theorem less_str {a b : Nat} (ha : a ≤ 1114111) (hb : b ≤ 1114111) : Op.bytesLess (strN (encN a)).toList (strN (encN b)).toList = decide (a < b) := by
  rw [strN_toList, strN_toList, less_strN _ _ (encN_lt ha) (encN_lt hb), less_encN ha hb]
theorem less_2047 : Op.bytesLess (strN (encN 2047)).toList [224] = true := by rw [strN_toList]; decide
theorem none_2047 : (strN (encN 2047)).toList.isEmpty = false := by rw [strN_toList]; decide

set_option maxHeartbeats 1000000 in
theorem utfOrder_walk {c d : Int} {w : World} : Calls Try.prog 3 #[.int .i64 c, .int .i64 d] w fun e w' => e = .returned (.bool true) ∧ Ext w w' := by
  have f1 := less_2047
  have f2 := none_2047
  by_cases hc : scal c
  · obtain ⟨c, rfl⟩ := Int.eq_ofNat_of_zero_le hc.1
    by_cases hd : scal d
    · obtain ⟨d, rfl⟩ := Int.eq_ofNat_of_zero_le hd.1
      have HC := Lib.hid hc
      have HD := Lib.hid hd
      clear hc hd
      go_enter Try.func3, Try.ntmps3
      go_wp2_with fail
      refine (put_yes HC.out _).mono ?_
      rintro e w' ⟨rfl, rfl⟩
      go_wp2_with fail
      refine (put_yes HD.out _).mono ?_
      rintro e w' ⟨rfl, rfl⟩
      go_wp2_with fail
      refine (put_yes (c := 2047) (by decide) _).mono ?_
      rintro e w' ⟨rfl, rfl⟩
      go_wp2_with fail
      go_ret
      have h1 := HC.out.2.1
      have h2 := HD.out.2.1
      exact ⟨ret_bool (by rw [less_str (by omega) (by omega)]; simp), Ext.refl _⟩
    · have HC := Lib.hid hc
      have HD := Lib.hid hd
      clear hc hd
      go_enter Try.func3, Try.ntmps3
      go_wp2_with fail
      refine (put_yes HC.out _).mono ?_
      rintro e w' ⟨rfl, rfl⟩
      go_wp2_with fail
      refine (put_no HD.out _).mono ?_
      rintro e w' ⟨rfl, rfl⟩
      go_wp2_with fail
      refine (put_yes (c := 2047) (by decide) _).mono ?_
      rintro e w' ⟨rfl, rfl⟩
      go_wp2_with fail
      go_ret
      exact ⟨rfl, Ext.refl _⟩
  · have HC := Lib.hid hc
    clear hc
    have key : ∃ v z, Calls Try.prog 10 #[.int .i64 d] w fun e w' => e = .returned (.tuple #[.string v, .int .i64 z]) ∧ w = w' := by
      by_cases hd : scal d
      · obtain ⟨d, rfl⟩ := Int.eq_ofNat_of_zero_le hd.1
        exact ⟨_, _, put_yes hd w⟩
      · exact ⟨_, _, put_no hd w⟩
    obtain ⟨v, z, hk⟩ := key
    have HK := Lib.hid hk
    clear hk
    go_enter Try.func3, Try.ntmps3
    go_wp2_with fail
    refine (put_no HC.out _).mono ?_
    rintro e w' ⟨rfl, rfl⟩
    go_wp2_with fail
    refine HK.out.mono ?_
    rintro e w' ⟨rfl, rfl⟩
    go_wp2_with fail
    refine (put_yes (c := 2047) (by decide) _).mono ?_
    rintro e w' ⟨rfl, rfl⟩
    go_wp2_with fail
    go_ret
    exact ⟨rfl, Ext.refl _⟩
end Go.Proofs.Ytbgegkagnahlpaa
