/-
  The walks of utf.lead, least, Get.
-/
import Derived.Test.YtbgegkagnahlpaaUtfG
import Derived.Test.YtbgegkagnahlpaaUtfPut
import Derived.Laws.BitsAllLaws
import Derived.Laws.Shifts
namespace Go.Proofs.Ytbgegkagnahlpaa
open Go.RowKit
set_option linter.unusedVariables false
set_option linter.unusedSimpArgs false

theorem ret_two {u u' v v' : Value} (h1 : u = u') (h2 : v = v') : Ending.returned (.tuple #[u, v]) = .returned (.tuple #[u', v']) := by rw [h1, h2]
theorem ret_three {u u' v v' x x' : Value} (h1 : u = u') (h2 : v = v') (h3 : x = x') : Ending.returned (.tuple #[u, v, x]) = .returned (.tuple #[u', v', x']) := by rw [h1, h2, h3]
theorem i64_eq {a b : Int} (h : a = b) : Value.int .i64 a = .int .i64 b := by rw [h]

set_option maxRecDepth 20000 in
set_option maxHeartbeats 1000000 in
theorem lead_ok {b : Nat} (hb : b < 256) (w : World) : Calls Try.prog 21 #[.int .u8 b] w fun e w' => e = .returned (.tuple #[.int .i64 (leadN b), .int .i64 (leadC b)]) ∧ w = w' := by
  by_cases c1 : b < 128
  · obtain ⟨e1, e2⟩ := lead1 c1
    rw [e1, e2]
    clear e1 e2
    go_enter Try.func21, Try.ntmps21
    go_wp2_with fail
    go_ret2
    exact ⟨rfl, rfl⟩
  by_cases c2 : b < 192
  · have e1 := lead0 (by omega) c2
    have e2 : leadC b = 0 := by unfold leadC; rw [if_neg c1, if_pos c2]
    rw [e1, e2]
    clear e1 e2
    go_enter Try.func21, Try.ntmps21
    go_wp2_with fail
    go_ret2
    exact ⟨rfl, rfl⟩
  by_cases c3 : b < 224
  · obtain ⟨e1, e2⟩ := lead2 (by omega) c3
    rw [e1, e2]
    clear e1 e2
    go_enter Try.func21, Try.ntmps21
    go_wp2_with fail
    go_ret2
    exact ⟨ret_two rfl (i64_eq (by simp)), rfl⟩
  by_cases c4 : b < 240
  · obtain ⟨e1, e2⟩ := lead3 (by omega) c4
    rw [e1, e2]
    clear e1 e2
    go_enter Try.func21, Try.ntmps21
    go_wp2_with fail
    go_ret2
    exact ⟨ret_two rfl (i64_eq (by simp)), rfl⟩
  by_cases c5 : b < 248
  · obtain ⟨e1, e2⟩ := lead4 (by omega) c5
    rw [e1, e2]
    clear e1 e2
    go_enter Try.func21, Try.ntmps21
    go_wp2_with fail
    go_ret2
    exact ⟨ret_two rfl (i64_eq (by simp)), rfl⟩
  · have e1 := lead5 (b := b) (by omega)
    have e2 : leadC b = 0 := by unfold leadC; rw [if_neg c1, if_neg c2, if_neg c3, if_neg c4, if_neg c5]
    rw [e1, e2]
    clear e1 e2
    go_enter Try.func21, Try.ntmps21
    go_wp2_with fail
    go_ret2
    exact ⟨rfl, rfl⟩

set_option maxHeartbeats 1000000 in
theorem least_ok (n : Nat) (w : World) : Calls Try.prog 22 #[.int .i64 n] w fun e w' => e = .returned (.int .i64 (leastF n)) ∧ w = w' := by
  by_cases c1 : n = 2
  · subst c1
    go_enter Try.func22, Try.ntmps22
    go_wp2_with fail
    go_ret
    exact ⟨rfl, rfl⟩
  by_cases c2 : n = 3
  · subst c2
    go_enter Try.func22, Try.ntmps22
    go_wp2_with fail
    go_ret
    exact ⟨rfl, rfl⟩
  by_cases c3 : n = 4
  · subst c3
    go_enter Try.func22, Try.ntmps22
    go_wp2_with fail
    go_ret
    exact ⟨rfl, rfl⟩
  have e : leastF n = 0 := by unfold leastF; rw [if_neg c1, if_neg c2, if_neg c3]
  rw [e]
  have k1 : ((n : Int) == 2) = false := by simp; omega
  have k2 : ((n : Int) == 3) = false := by simp; omega
  have k3 : ((n : Int) == 4) = false := by simp; omega
  clear c1 c2 c3 e
  go_enter Try.func22, Try.ntmps22
  go_wp2_with fail
  go_ret
  exact ⟨rfl, rfl⟩
set_option maxHeartbeats 1000000 in
theorem scalar_ok (c : Int) (w : World) : Calls Try.prog 20 #[.int .i64 c] w fun e w' => e = .returned (.bool (decide (scal c))) ∧ w = w' := by
  by_cases h : scal c
  · rw [decide_eq_true h]; exact scalar_yes h w
  · rw [decide_eq_false h]; exact scalar_no h w

theorem get_nil (w : World) (s : ByteArray) (h : (nums s).length = 0) : Calls Try.prog 11 #[.string s] w fun e w' => e = .returned (.tuple #[.int .i64 (getC (nums s)), .int .i64 (getW (nums s)), .int .i64 (getE (nums s))]) ∧ w = w' := by
  have e0 : getE (nums s) = 3 := by unfold getE; rw [if_pos h]
  have e1 : getC (nums s) = 0 := by unfold getC; rw [if_neg (by rw [e0]; decide)]
  have e2 : getW (nums s) = 0 := by unfold getW; rw [if_neg (by rw [e0]; decide)]
  rw [e0, e1, e2]
  have k : s.toList = [] := by
    rw [Lib.toList_data]
    have : (nums s).length = s.data.toList.length := by unfold nums; rw [List.length_map]
    rw [this] at h
    exact List.length_eq_zero_iff.1 h
  clear h e0 e1 e2
  go_enter Try.func11, Try.ntmps11
  go_wp2_with fail
  go_ret3
  exact ⟨rfl, rfl⟩
theorem toList_nums (s : ByteArray) : (nums s).length = s.toList.length := by
  rw [Lib.toList_data]; unfold nums; rw [List.length_map]
theorem empty_nums {s : ByteArray} (h : (nums s).length ≠ 0) : s.toList.isEmpty = false := by
  rw [toList_nums] at h
  cases hs : s.toList with
  | nil => rw [hs] at h; exact absurd rfl h
  | cons a b => rfl

set_option maxHeartbeats 1000000 in
theorem get_none (w : World) (s : ByteArray) (h : (nums s).length ≠ 0) (h1 : leadN (gN (nums s) 0) = 0) : Calls Try.prog 11 #[.string s] w fun e w' => e = .returned (.tuple #[.int .i64 (getC (nums s)), .int .i64 (getW (nums s)), .int .i64 (getE (nums s))]) ∧ w = w' := by
  have e0 : getE (nums s) = 4 := by unfold getE; rw [if_neg h, if_pos h1]
  have e1 : getC (nums s) = 0 := by unfold getC; rw [if_neg (by rw [e0]; decide)]
  have e2 : getW (nums s) = 0 := by unfold getW; rw [if_neg (by rw [e0]; decide)]
  rw [e0, e1, e2]
  have hemp := empty_nums h
  have hsz : 0 < s.size := by rw [← nums_len]; omega
  have HL := Lib.hid (lead_ok (gN_lt (nums_lt s) 0))
  rw [h1] at HL
  have hi : ∀ h, (s[0]'h).toNat = gN (nums s) 0 := fun h => nums_at s 0 h
  clear h e0 e1 e2 h1
  go_enter Try.func11, Try.ntmps11
  go_wp2_with fail
  refine (HL.out _).mono ?_
  rintro e w' ⟨rfl, rfl⟩
  go_wp2_with fail
  go_ret3
  exact ⟨rfl, rfl⟩

theorem tailF_end {l : List Nat} {f c k : Nat} (h : k = l.length) : tailF l (f + 1) k c = (3, c) := by unfold tailF; rw [if_pos h]
theorem tailF_bad {l : List Nat} {f c k : Nat} (h : k ≠ l.length) (h2 : gN l k / 64 ≠ 2) : tailF l (f + 1) k c = (4, c) := by unfold tailF; rw [if_neg h, if_pos h2]
theorem get_fails {l : List Nat} {e c : Nat} (h0 : l.length ≠ 0) (h1 : leadN (gN l 0) ≠ 0) (he : e ≠ 0) (h : getR l = (e, c)) : getE l = e ∧ getC l = 0 ∧ getW l = 0 := by
  have e0 : getE l = e := by unfold getE; rw [if_neg h0, if_neg h1, h, if_pos he]
  exact ⟨e0, by unfold getC; rw [if_neg (by rw [e0]; exact he)], by unfold getW; rw [if_neg (by rw [e0]; exact he)]⟩
theorem get_bad {l : List Nat} {c : Nat} (h0 : l.length ≠ 0) (h1 : leadN (gN l 0) ≠ 0) (h : getR l = (0, c)) (hk : c < leastF (leadN (gN l 0)) ∨ ¬ scal c) : getE l = 4 ∧ getC l = 0 ∧ getW l = 0 := by
  have e0 : getE l = 4 := by
    unfold getE; rw [if_neg h0, if_neg h1, if_neg (by rw [h]; simp), if_neg]
    unfold getOk; rw [h]; exact fun hh => hh hk
  exact ⟨e0, by unfold getC; rw [if_neg (by rw [e0]; decide)], by unfold getW; rw [if_neg (by rw [e0]; decide)]⟩
theorem get_good {l : List Nat} {c : Nat} (h0 : l.length ≠ 0) (h1 : leadN (gN l 0) ≠ 0) (h : getR l = (0, c)) (hk : ¬ (c < leastF (leadN (gN l 0)) ∨ ¬ scal c)) : getE l = 0 ∧ getC l = c ∧ getW l = leadN (gN l 0) := by
  have e0 : getE l = 0 := by
    unfold getE; rw [if_neg h0, if_neg h1, if_neg (by rw [h]; simp), if_pos]
    unfold getOk; rw [h]; exact hk
  exact ⟨e0, by unfold getC; rw [if_pos e0, h], by unfold getW; rw [if_pos e0]⟩
theorem leadN_le (b : Nat) : leadN b ≤ 4 := by unfold leadN; split <;> (try split) <;> (try split) <;> (try split) <;> (try split) <;> omega
theorem leadC_lt (b : Nat) : leadC b < 128 := by unfold leadC; split <;> (try split) <;> (try split) <;> (try split) <;> (try split) <;> omega
theorem pow_bd {cc k : Nat} (h1 : 1 ≤ k) (h4 : k < 4) (h : cc < 128 * 64 ^ (k - 1)) : cc < 1000000 := by
  have : k = 1 ∨ k = 2 ∨ k = 3 := by omega
  rcases this with rfl | rfl | rfl <;> simp at h <;> omega
theorem pow_up {cc k x : Nat} (h1 : 1 ≤ k) (h : cc < 128 * 64 ^ (k - 1)) : cc * 64 + x % 64 < 128 * 64 ^ (k + 1 - 1) := by
  have e : 64 ^ (k + 1 - 1) = 64 ^ (k - 1) * 64 := by rw [← Nat.pow_succ]; congr 1; omega
  rw [e, ← Nat.mul_assoc]
  omega

theorem or6 {c g : Nat} (hc : c < 1000000) : bits .or .i64 ((c : Int) * 64) ((g : Int) % 64) = ((c * 64 + g % 64 : Nat) : Int) := by
  rw [bits_join .i64 32 (by decide) (fun n h0 h1 => by rw [IntKind.wrap_i64]; omega) 6 _ _ (by omega) (by omega) (by omega) (by omega) (by omega) (by omega)]
  omega
set_option maxRecDepth 20000 in
set_option maxHeartbeats 4000000 in
theorem get_some (w : World) (s : ByteArray) (h0 : (nums s).length ≠ 0) (h1 : leadN (gN (nums s) 0) ≠ 0) : Calls Try.prog 11 #[.string s] w fun e w' => e = .returned (.tuple #[.int .i64 (getC (nums s)), .int .i64 (getW (nums s)), .int .i64 (getE (nums s))]) ∧ w = w' := by
  have hemp := empty_nums h0
  have hsz : 0 < s.size := by rw [← nums_len]; omega
  have HN := Lib.hid (nums_len s)
  have HB := Lib.hid (nums_lt s)
  have HL := Lib.hid (lead_ok (gN_lt (nums_lt s) 0))
  have HI : Hid (∀ (k : Nat) (h : k < s.size), (s[k]'h).toNat = gN (nums s) k) := Lib.hid fun k h => nums_at s k h
  have hi0 : ∀ h, (s[0]'h).toNat = gN (nums s) 0 := fun h => nums_at s 0 h
  have HR : Hid (getR (nums s) = tailF (nums s) (leadN (gN (nums s) 0) - 1) 1 (leadC (gN (nums s) 0))) := Lib.hid rfl
  have HF : Hid (∀ (e c : Nat), e ≠ 0 → getR (nums s) = (e, c) → getE (nums s) = e ∧ getC (nums s) = 0 ∧ getW (nums s) = 0) := Lib.hid fun e c he h => get_fails h0 h1 he h
  have HX : Hid (∀ (c : Nat), getR (nums s) = (0, c) → (c < leastF (leadN (gN (nums s) 0)) ∨ ¬ scal c) → getE (nums s) = 4 ∧ getC (nums s) = 0 ∧ getW (nums s) = 0) := Lib.hid fun c h hk => get_bad h0 h1 h hk
  have HG : Hid (∀ (c : Nat), getR (nums s) = (0, c) → ¬ (c < leastF (leadN (gN (nums s) 0)) ∨ ¬ scal c) → getE (nums s) = 0 ∧ getC (nums s) = c ∧ getW (nums s) = leadN (gN (nums s) 0)) := Lib.hid fun c h hk => get_good h0 h1 h hk
  have hn4 := leadN_le (gN (nums s) 0)
  have hc1 := leadC_lt (gN (nums s) 0)
  clear h0
  generalize hb : gN (nums s) 0 = b at *
  generalize hn : leadN b = n at *
  generalize hcc : leadC b = c0 at *
  generalize hE : getE (nums s) = ee at *
  generalize hC : getC (nums s) = ec at *
  generalize hW : getW (nums s) = ew at *
  clear hb hn hcc hE hC hW
  have hz : ((n : Int) == 0) = false := by simp; omega
  go_enter Try.func11, Try.ntmps11
  go_wp2_with fail
  refine (HL.out _).mono ?_
  rintro e w' ⟨rfl, rfl⟩
  clear HL hi0
  go_wp2_with fail
  go_loopw [6, 7] (fun c i wr => ∃ (k cc : Nat), c = .int .i64 cc ∧ i = .int .i64 k ∧ 1 ≤ k ∧ k ≤ n ∧ Hid (getR (nums s) = tailF (nums s) (n - k) k cc) ∧ Hid (cc < 128 * 64 ^ (k - 1)) ∧ k ≤ s.size ∧ wr = w) (fun _ i _ => n - (intOf i).toNat)
  case atStart => exact ⟨1, c0, rfl, rfl, by omega, by omega, HR, Lib.hid (by simpa using hc1), by omega, rfl⟩
  case round =>
    obtain ⟨k, cc, rfl, rfl, hk1, hk2, hr, hcc, hks, rfl⟩ := hrel
    by_cases hkn : k < n
    · have hbd : cc < 1000000 := pow_bd hk1 (by omega) hcc.out
      by_cases hke : k = s.size
      · have HA := Lib.hid (HF.out 3 cc (by decide) (by rw [hr.out, show n - k = (n - k - 1) + 1 by omega]; exact tailF_end (by rw [HN.out]; exact hke)))
        go_wp2_with fail
        go_ret3
        obtain ⟨rfl, rfl, rfl⟩ := HA.out
        exact ⟨rfl, rfl⟩
      · have hks2 : k < s.size := by omega
        have hik := HI.out k hks2
        have hg := gN_lt HB.out k
        by_cases h2 : gN (nums s) k / 64 = 2
        · go_wp2_with fail
          rw [or6 hbd]
          refine ⟨⟨k + 1, cc * 64 + gN (nums s) k % 64, rfl, by go_num, by omega, by omega, Lib.hid ?_, Lib.hid (pow_up hk1 hcc.out), by omega, trivial⟩, by simp [intOf]; omega⟩
          rw [hr.out, show n - k = (n - (k + 1)) + 1 by omega]
          exact tailF_goes (by rw [HN.out]; exact hke) h2
        · have HA := Lib.hid (HF.out 4 cc (by decide) (by rw [hr.out, show n - k = (n - k - 1) + 1 by omega]; exact tailF_bad (by rw [HN.out]; exact hke) h2))
          go_wp2_with fail
          go_ret3
          obtain ⟨rfl, rfl, rfl⟩ := HA.out
          exact ⟨rfl, rfl⟩
    · obtain rfl : k = n := by omega
      have hr0 : Hid (getR (nums s) = (0, cc)) := Lib.hid (by rw [hr.out, Nat.sub_self]; rfl)
      have hbd : cc < 100000000000 := by
        have h1 := hcc.out
        have : k = 1 ∨ k = 2 ∨ k = 3 ∨ k = 4 := by omega
        rcases this with rfl | rfl | rfl | rfl <;> simp at h1 <;> omega
      clear HF HR HB HN HI hr
      have HLe := Lib.hid (least_ok k)
      generalize leastF k = m at *
      go_wp2_with fail
      refine (HLe.out _).mono ?_
      rintro e w' ⟨rfl, rfl⟩
      by_cases hlt : cc < m
      · have HA := Lib.hid (HX.out cc hr0.out (.inl hlt))
        clear HX HG hr0
        go_wp2_with fail
        go_ret3
        obtain ⟨rfl, rfl, rfl⟩ := HA.out
        exact ⟨rfl, rfl⟩
      · by_cases hsc : scal cc
        · have HA := Lib.hid (HG.out cc hr0.out (fun hh => hh.elim hlt (fun h => h hsc)))
          have HS := Lib.hid (scalar_ok cc)
          rw [decide_eq_true hsc] at HS
          clear HX HG hr0 hsc
          go_wp2_with fail
          refine (HS.out _).mono ?_
          rintro e w' ⟨rfl, rfl⟩
          go_wp2_with fail
          go_ret3
          obtain ⟨rfl, rfl, rfl⟩ := HA.out
          exact ⟨rfl, rfl⟩
        · have HA := Lib.hid (HX.out cc hr0.out (.inr hsc))
          have HS := Lib.hid (scalar_ok cc)
          rw [decide_eq_false hsc] at HS
          clear HX HG hr0 hsc
          go_wp2_with fail
          refine (HS.out _).mono ?_
          rintro e w' ⟨rfl, rfl⟩
          go_wp2_with fail
          go_ret3
          obtain ⟨rfl, rfl, rfl⟩ := HA.out
          exact ⟨rfl, rfl⟩
theorem get_ok (s : ByteArray) (w : World) : Calls Try.prog 11 #[.string s] w fun e w' => e = .returned (.tuple #[.int .i64 (getC (nums s)), .int .i64 (getW (nums s)), .int .i64 (getE (nums s))]) ∧ w = w' := by
  by_cases h0 : (nums s).length = 0
  · exact get_nil w s h0
  by_cases h1 : leadN (gN (nums s) 0) = 0
  · exact get_none w s h0 h1
  · exact get_some w s h0 h1
end Go.Proofs.Ytbgegkagnahlpaa
