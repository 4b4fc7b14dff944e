/-
  The walk of UtfBack.
-/
import Derived.Test.YtbgegkagnahlpaaUtfA
import Derived.Test.YtbgegkagnahlpaaEq
namespace Go.Proofs.Ytbgegkagnahlpaa
open Go.RowKit
set_option linter.unusedVariables false
set_option linter.unusedSimpArgs false

theorem put_8364 : (strN (encN 8364)).toList = [226, 130, 172] := by rw [strN_toList]; decide

theorem all_text {l : List Int} {w : World} (h : ∀ x ∈ l, scal x) (hn : l.length ≤ 17592186043904) :
    Calls Try.prog 14 #[.string (strN (encL l))] w fun e w' => ∃ A c, e = .returned (.tuple #[.slice A l.length c, .int .i64 (encL l).length, .int .i64 0]) ∧ Ints w' A l.length c l ∧ Ext w w' := by
  have e1 : nums (strN (encL l)) = encL l := nums_strN (encL_lt h)
  have hsz := strN_size (encL l)
  have hge := encL_ge l
  have hle := encL_le l
  obtain ⟨a1, a2, a3⟩ := all_enc l (strN (encL l)).size h (by rw [hsz]; exact hge)
  have hA := all_ok (s := strN (encL l)) (w := w) (by rw [hsz]; omega) (by rw [e1, a1]; exact hn)
  rw [e1, a1, a2, a3] at hA
  refine hA.mono ?_
  rintro e w' ⟨A, q, c, l2, rfl, h1, h2, _, h4⟩
  obtain rfl := h2 rfl
  obtain rfl := h1.len
  exact ⟨A, c, rfl, h1, h4⟩
theorem equal_true {A B : Option Addr} {n c m d : Nat} {l : List Int} {w : World} (hl : Ints w A n c l) (hl' : Ints w B m d l) :
    Calls Try.prog 16 #[.slice A n c, .slice B m d] w fun e w' => e = .returned (.bool true) ∧ Ext w w' := by
  have h := equal_ext hl hl'
  rwa [show eqB l l = true from by simp [eqB]] at h

set_option maxRecDepth 20000 in
set_option maxHeartbeats 4000000 in
theorem utfBack_walk {c : Int} {more : ByteArray} {l : List Int} {A : Option Addr} {n d : Nat} {w : World} (hm : more.size ≤ 140737488351232) (hl : Ints w A n d l) (hn : n ≤ 17592186043904) :
    Calls Try.prog 6 #[.int .i64 c, .string more, .slice A n d] w fun e w' => e = .returned (.bool true) ∧ Ext w w' := by
  have f1 := put_8364
  have HI := Lib.hid hl
  clear hl
  have hlen := Lib.hid HI.out.len
  have HT := Lib.hid (text_walk HI.out hn)
  have HP0 := Lib.hid (put_yes (c := 8364) (by decide))
  by_cases hc : scal c
  · obtain ⟨c, rfl⟩ := Int.eq_ofNat_of_zero_le hc.1
    have HP := Lib.hid (put_yes hc)
    have HG : Hid (∀ wq, Calls Try.prog 11 #[.string (strN (encN c) ++ more)] wq fun e w' => e = .returned (.tuple #[.int .i64 c, .int .i64 (encN c).length, .int .i64 0]) ∧ wq = w') := Lib.hid fun wq => by
      have h := get_ok (strN (encN c) ++ more) wq
      rwa [nums_app, nums_strN (encN_lt (by have := hc.2.1; omega)), getC_enc hc, getW_enc hc, getE_enc hc] at h
    have hz := strN_size (encN c)
    have h4 := encN_len_le c
    clear hc
    generalize strN (encN c) = s at *
    generalize (encN c).length = z at *
    go_enter Try.func6, Try.ntmps6
    go_wp2_with fail
    refine (HP0.out _).mono ?_
    rintro e w' ⟨rfl, rfl⟩
    go_wp2_with fail
    refine (HP.out _).mono ?_
    rintro e w' ⟨rfl, rfl⟩
    go_wp2_with fail
    refine (HG.out _).mono ?_
    rintro e w' ⟨rfl, rfl⟩
    go_wp2_with fail
    by_cases hs : ∀ x ∈ l, scal x
    · refine HT.out.mono ?_
      rintro e w1 ⟨h1, _, he1⟩
      obtain rfl := h1 hs
      have hll := hlen.out
      have HA := Lib.hid (all_text (w := w1) hs (by omega))
      have HC : Hid (∀ wq, _) := Lib.hid fun wq => count_ok (w := wq) hs (by omega)
      have hsz := strN_size (encL l)
      rw [hll] at HA HC
      clear hs h1 hll HT
      generalize strN (encL l) = t at *
      generalize (encL l).length = pw at *
      go_wp2_with fail
      refine HA.out.mono ?_
      rintro e w2 ⟨B, q, rfl, hB, he2⟩
      have HB := Lib.hid hB
      clear HA hB
      go_wp2_with fail
      refine (HC.out _).mono ?_
      rintro e w3 ⟨rfl, he3⟩
      have HQ := Lib.hid (equal_true (HB.out.ext he3) (HI.out.ext ((he1.trans he2).trans he3)))
      clear HC
      go_wp2_with fail
      refine HQ.out.mono ?_
      rintro e w4 ⟨rfl, he4⟩
      have hend := ((he1.trans he2).trans he3).trans he4
      clear HQ
      go_wp2_with fail
      go_ret
      exact ⟨rfl, hend⟩
    · refine HT.out.mono ?_
      rintro e w1 ⟨_, h1, he1⟩
      obtain rfl := h1 hs
      clear hs h1 HT
      go_wp2_with fail
      go_ret
      exact ⟨rfl, he1⟩
  · have HP := Lib.hid (put_no hc)
    clear hc
    go_enter Try.func6, Try.ntmps6
    go_wp2_with fail
    refine (HP0.out _).mono ?_
    rintro e w' ⟨rfl, rfl⟩
    go_wp2_with fail
    refine (HP.out _).mono ?_
    rintro e w' ⟨rfl, rfl⟩
    go_wp2_with fail
    by_cases hs : ∀ x ∈ l, scal x
    · refine HT.out.mono ?_
      rintro e w1 ⟨h1, _, he1⟩
      obtain rfl := h1 hs
      have hll := hlen.out
      have HA := Lib.hid (all_text (w := w1) hs (by omega))
      have HC : Hid (∀ wq, _) := Lib.hid fun wq => count_ok (w := wq) hs (by omega)
      have hsz := strN_size (encL l)
      rw [hll] at HA HC
      clear hs h1 hll HT
      generalize strN (encL l) = t at *
      generalize (encL l).length = pw at *
      go_wp2_with fail
      refine HA.out.mono ?_
      rintro e w2 ⟨B, q, rfl, hB, he2⟩
      have HB := Lib.hid hB
      clear HA hB
      go_wp2_with fail
      refine (HC.out _).mono ?_
      rintro e w3 ⟨rfl, he3⟩
      have HQ := Lib.hid (equal_true (HB.out.ext he3) (HI.out.ext ((he1.trans he2).trans he3)))
      clear HC
      go_wp2_with fail
      refine HQ.out.mono ?_
      rintro e w4 ⟨rfl, he4⟩
      have hend := ((he1.trans he2).trans he3).trans he4
      clear HQ
      go_wp2_with fail
      go_ret
      exact ⟨rfl, hend⟩
    · refine HT.out.mono ?_
      rintro e w1 ⟨_, h1, he1⟩
      obtain rfl := h1 hs
      clear hs h1 HT
      go_wp2_with fail
      go_ret
      exact ⟨rfl, he1⟩
end Go.Proofs.Ytbgegkagnahlpaa
