/-
  The walk of FeedWaits.
-/
import Derived.Test.YtbgegkagnahlpaaFeedC
namespace Go.Proofs.Ytbgegkagnahlpaa
open Go.RowKit
set_option linter.unusedVariables false
set_option linter.unusedSimpArgs false

theorem step_no {ah : List Nat} {b : Nat} (hne : ah ≠ []) (h : ¬ fitsF ah b) (h1 : 128 ≤ b) (h2 : b < 192) : mchA ah [b] = ⟨[], [65533, 65533]⟩ := by
  unfold mchA
  rw [runM_cons, runM_nil, tk_break _ hne h, put_zero, if_pos]
  · rfl
  · unfold whF; rw [if_neg (by omega), if_neg (by omega), if_neg (by omega), if_neg (by omega)]
theorem step_fit {ah : List Nat} {b : Nat} (hp : Pre ah) (hne : ah ≠ []) (h : fitsF ah b) : mchA ah [b] = ⟨ah ++ [b], []⟩ ∨ ∃ c : Nat, 128 ≤ c ∧ mchA ah [b] = ⟨[], [(c : Int)]⟩ := by
  unfold mchA
  rw [runM_cons, runM_nil, tk_fit _ hne h]
  split
  · rename_i hw
    right
    match ah, hp, h, hne, hw with
    | [a], hp, h, _, hw =>
      obtain ⟨c, k1, k2, k3⟩ := full2 (show whF a = 2 from hw.symm) h
      have hg := getC_enc k1 []
      rw [List.append_nil, ← k2] at hg
      exact ⟨c, k3, by rw [show ([a] ++ [b] : List Nat) = [a, b] from rfl, hg]; rfl⟩
    | [a, d], hp, h, _, hw =>
      obtain ⟨c, k1, k2, k3⟩ := full3 (show whF a = 3 from hw.symm) hp.2 h
      have hg := getC_enc k1 []
      rw [List.append_nil, ← k2] at hg
      exact ⟨c, k3, by rw [show ([a, d] ++ [b] : List Nat) = [a, d, b] from rfl, hg]; rfl⟩
    | [a, d, f], hp, h, _, hw =>
      obtain ⟨c, k1, k2, k3⟩ := full4 (show whF a = 4 from hw.symm) hp.2.1 hp.2.2 h
      have hg := getC_enc k1 []
      rw [List.append_nil, ← k2] at hg
      exact ⟨c, k3, by rw [show ([a, d, f] ++ [b] : List Nat) = [a, d, f, b] from rfl, hg]; rfl⟩
  · left; rfl
theorem fits_some (ah : List Nat) : ∃ b, 128 ≤ b ∧ b < 192 ∧ fitsF ah b := by
  unfold fitsF
  by_cases h : ah.length = 1
  · obtain ⟨h1, h2, h3⟩ := sec_in (gN ah 0)
    exact ⟨secL (gN ah 0), h1, by omega, by rw [if_pos h]; exact ⟨Nat.le_refl _, h2⟩⟩
  · exact ⟨128, by omega, by omega, by rw [if_neg h]; omega⟩
theorem mch_end {s : ByteArray} : (mch (nums s)).ah.length ≤ s.size ∧ s.extract (s.size - (mch (nums s)).ah.length) s.size = strN (mch (nums s)).ah := by
  obtain ⟨p, hp⟩ := run_tail (nums s) []
  rw [List.nil_append] at hp
  have hl := congrArg List.length hp
  rw [List.length_append, nums_len] at hl
  have hl2 : s.size = p.length + (mch (nums s)).ah.length := hl
  refine ⟨by omega, ?_⟩
  apply nums_inj
  rw [nums_from, nums_strN (mch_lt (nums_lt s)), show s.size - (mch (nums s)).ah.length = p.length by omega]
  have : (nums s).drop p.length = (p ++ (mch (nums s)).ah).drop p.length := congrArg (List.drop p.length) hp
  rw [this, List.drop_left]
theorem mchA_nil (l : List Nat) : mchA [] l = mch l := rfl

theorem waits_lit (w : World) : Calls Try.prog 17 #[.string ⟨#[]⟩, .string ⟨#[97, 240, 159]⟩] w fun e w' => ∃ O q d, e = .returned (.tuple #[.string ⟨#[240, 159]⟩, .slice O q d, .int .i64 0]) ∧ Ext w w' := by
  have h := feed_ok (ah := []) (s := ⟨#[97, 240, 159]⟩) (w := w) trivial (by simp) (by decide)
  have e1 : (mchA [] (nums ⟨#[97, 240, 159]⟩)).ah = [240, 159] := by decide +kernel
  rw [e1] at h
  refine Calls.mono (show Calls Try.prog 17 #[.string ⟨#[]⟩, .string ⟨#[97, 240, 159]⟩] w _ from h) ?_
  rintro e w' ⟨O, q, d, rfl, ho, he⟩
  exact ⟨O, q, d, rfl, he⟩
theorem waits_ok (s : ByteArray) (w : World) (hs : s.size ≤ 4096) : Calls Try.prog 17 #[.string ⟨#[]⟩, .string s] w fun e w' => ∃ O q d, e = .returned (.tuple #[.string (strN (mch (nums s)).ah), .slice O q d, .int .i64 0]) ∧ Ext w w' := by
  have h := feed_ok (ah := []) (s := s) (w := w) trivial (by simp) hs
  rw [mchA_nil] at h
  refine Calls.mono (show Calls Try.prog 17 #[.string ⟨#[]⟩, .string s] w _ from h) ?_
  rintro e w' ⟨O, q, d, rfl, ho, he⟩
  exact ⟨O, q, d, rfl, he⟩
theorem waits_big (s : ByteArray) (w : World) (hs : 4096 < s.size) : Calls Try.prog 17 #[.string ⟨#[]⟩, .string s] w fun e w' => e = .returned (.tuple #[.string ⟨#[]⟩, .slice none 0 0, .int .i64 2]) ∧ Ext w w' :=
  feed_big (ah := []) (s := s) (w := w) trivial (by simp) hs
theorem waits_byte {ah : List Nat} {b : Nat} (hp : Pre ah) (hlt : ∀ x ∈ ah, x < 256) (hb : b < 256) (w : World) :
    Calls Try.prog 17 #[.string (strN ah), .string (strN [b])] w fun e w' => ∃ O q d, e = .returned (.tuple #[.string (strN (mchA ah [b]).ah), .slice O q d, .int .i64 0]) ∧ Ints w' O q d (mchA ah [b]).out ∧ Ext w w' := by
  have h := feed_ok (ah := ah) (s := strN [b]) (w := w) hp hlt (by rw [strN_size]; simp)
  rwa [nums_strN (by simpa using hb)] at h
theorem one_byte (w : World) (b : Nat) : (convert 43 9 (.slice (some ⟨w.heap.size, 0, none⟩) 1 1)).run Try.prog (w.alloc (.cells #[.int .u8 b] 5)) = .ok (.string (strN [b])) (w.alloc (.cells #[.int .u8 b] 5)) := by
  refine conv_bytes (ah := [b]) ⟨by simp, Nat.le_refl _, by unfold maxLen; omega, fun _ => ⟨_, rfl, fun j u hj => ?_⟩⟩
  have e1 : (⟨w.heap.size, 0, none⟩ : Addr).add j = ⟨w.heap.size, j, none⟩ := by simp [Addr.add_lit]
  rw [e1, (Blk.new w 5 _).cell j]
  simpa [bv] using hj

set_option maxRecDepth 20000 in
set_option maxHeartbeats 8000000 in
theorem feedWaits_walk {s : ByteArray} {w : World} (hs : s.size ≤ 140737488351232) :
    Calls Try.prog 7 #[.string s] w fun e w' => e = .returned (.bool true) ∧ Ext w w' := by
  have HF := Lib.hid (waits_lit w)
  go_enter Try.func7, Try.ntmps7
  go_wp2_with fail
  refine HF.out.mono ?_
  rintro e w1 ⟨O1, q1, d1, rfl, he1⟩
  clear HF
  by_cases hz : 4096 < s.size
  · have HB := Lib.hid (waits_big s w1 hz)
    go_wp2_with fail
    refine HB.out.mono ?_
    rintro e w2 ⟨rfl, he2⟩
    have hend := he1.trans he2
    clear HB
    go_wp2_with fail
    go_ret
    exact ⟨rfl, hend⟩
  have HB := Lib.hid (waits_ok s w1 (by omega))
  obtain ⟨m1, m2⟩ := mch_end (s := s)
  have hpre := mch_pre (nums s)
  have hlt := mch_lt (nums_lt s)
  generalize (mch (nums s)).ah = ah at *
  have hal := pre_len hpre
  have hsz := strN_size ah
  have HC := Lib.hid (fun wq => check_pre (w := wq) hpre hlt)
  have HPre := Lib.hid hpre
  have HLt := Lib.hid hlt
  have hw1 : IntKind.i64.wrap ((s.size : Int) - (ah.length : Int)) = ((s.size - ah.length : Nat) : Int) := by rw [IntWalk.i64_in _ (by omega)]; omega
  have hsx : (s.size - ah.length) ≤ s.size := by omega
  clear hpre hlt
  have HBy := Lib.hid (fun (b : Nat) (hb : b < 256) (wq : World) => waits_byte (b := b) HPre.out HLt.out hb wq)
  have HEmp : Hid (ah = [] → (strN ah).toList.isEmpty = true) := Lib.hid (fun h => by rw [h, strN_toList]; rfl)
  have HNe : Hid (ah ≠ [] → (strN ah).toList.isEmpty = false) := Lib.hid (fun h => empty_nums (by rw [nums_strN HLt.out]; intro e; exact h (List.length_eq_zero_iff.1 e)))
  generalize hP : strN ah = P at *
  have HP := Lib.hid hP
  clear hP
  obtain ⟨z, hzz⟩ : ∃ z, ah.length = z := ⟨_, rfl⟩
  rw [hzz] at m1 m2 hal hsz hw1 hsx
  have Hzz := Lib.hid hzz
  clear hzz
  have j1 : decide (s.size < z) = false := by simp; omega
  have j2 : ¬ s.size < z := by omega
  have j3 : decide ((3 : Int) < (z : Int)) = false := by simp; omega
  have j4 : ¬ (3 : Int) < (z : Int) := by omega
  go_wp2_with fail
  refine HB.out.mono ?_
  rintro e w2 ⟨O2, q2, d2, rfl, he2⟩
  have hx2 := he1.trans he2
  clear HB he1 he2
  go_wp2_with fail
  refine (HC.out _).mono ?_
  rintro e w3 ⟨rfl, he3⟩
  have hx3 := hx2.trans he3
  clear HC hx2 he3 m2 hw1 hsx
  by_cases h0 : ah = []
  · have hE := HEmp.out h0
    clear HEmp HNe h0
    go_wp2_with fail
    go_loopw [9] (fun bv' wr => ∃ b : Nat, bv' = .int .i64 b ∧ 128 ≤ b ∧ b ≤ 192 ∧ wr = w3) (fun bv' _ => 192 - (intOf bv').toNat)
    case atStart => exact ⟨128, rfl, by omega, by omega, rfl⟩
    case round =>
      obtain ⟨b, rfl, hb1, hb2, rfl⟩ := hrel
      by_cases hb3 : b < 192
      · go_wp2_with fail
        go_ret
        exact ⟨rfl, hx3⟩
      · go_wp2_with fail
        go_ret
        exact ⟨rfl, hx3⟩
  · have hE := HNe.out h0
    obtain ⟨bs, hbs1, hbs2, hbs3⟩ := fits_some ah
    have H0 := Lib.hid h0
    have Hbs := Lib.hid hbs3
    clear HEmp HNe h0 hbs3
    go_wp2_with fail
    go_loopw [9] (fun bv' wr => ∃ b : Nat, bv' = .int .i64 b ∧ 128 ≤ b ∧ b ≤ bs ∧ Ext w wr) (fun bv' _ => 192 - (intOf bv').toNat)
    case atStart => exact ⟨128, rfl, by omega, by omega, hx3⟩
    case round =>
      clear hx3
      obtain ⟨b, rfl, hb1, hb2, he⟩ := hrel
      have hb3 : b < 192 := by omega
      have hw2 : IntKind.u8.wrap (b : Int) = (b : Int) := by rw [IntKind.wrap_u8]; omega
      have hcv := one_byte wr b
      have HFb := Lib.hid (HBy.out b (by omega))
      by_cases hf : fitsF ah b
      · rcases step_fit HPre.out H0.out hf with h1 | ⟨c, hc, h1⟩
        · rw [h1] at HFb
          have hs2 : (strN (ah ++ [b])).size = z + 1 := by rw [strN_size, List.length_append, Hzz.out]; rfl
          have he2 : (strN (ah ++ [b])).toList.isEmpty = false := by rw [strN_toList]; cases ah <;> rfl
          simp only at HFb
          generalize strN (ah ++ [b]) = Q at *
          clear h1 hf
          go_wp2_with fail
          refine (HFb.out _).mono ?_
          rintro e w5 ⟨O5, q5, d5, rfl, i5, he5⟩
          obtain rfl : 0 = q5 := i5.len
          have hend := he.trans ((Ext.alloc wr (.cells #[.int .u8 b] 5)).trans he5)
          clear HFb i5 he5
          go_wp2_with fail
          go_ret
          exact ⟨rfl, hend⟩
        · rw [h1] at HFb
          have hq0 : (strN []).toList.isEmpty = true := by rw [strN_toList]; rfl
          have hq1 : (strN []).size = 0 := strN_size []
          simp only at HFb
          generalize strN [] = Q at *
          clear h1 hf
          go_wp2_with fail
          refine (HFb.out _).mono ?_
          rintro e w5 ⟨O5, q5, d5, rfl, i5, he5⟩
          obtain rfl : 1 = q5 := i5.len
          obtain ⟨ad, rfl, hcell⟩ := i5.at_ (k := 0) (by omega)
          have c0 := hcell 0 (by omega)
          have hcI : (128 : Int) ≤ (c : Int) := by omega
          have hg : gI [(c : Int)] 0 = (c : Int) := rfl
          rw [hg, add_nought] at c0
          have hend := he.trans ((Ext.alloc wr (.cells #[.int .u8 b] 5)).trans he5)
          clear HFb i5 he5 hcell
          go_wp2_with fail
          go_ret
          exact ⟨rfl, hend⟩
      · have h1 := step_no H0.out hf hb1 hb3
        have hlt : b < bs := by
          rcases Nat.lt_or_ge b bs with h | h
          · exact h
          · exact absurd Hbs.out (by rw [show bs = b by omega]; exact hf)
        rw [h1] at HFb
        simp only at HFb
        generalize strN [] = Q at *
        clear h1 hf
        go_wp2_with fail
        refine (HFb.out _).mono ?_
        rintro e w5 ⟨O5, q5, d5, rfl, i5, he5⟩
        obtain rfl : 2 = q5 := i5.len
        have hend := he.trans ((Ext.alloc wr (.cells #[.int .u8 b] 5)).trans he5)
        clear HFb i5 he5 hcv
        go_wp2_with fail
        go_roundw
        case rel => exact ⟨b + 1, by go_num, by omega, by omega, hend⟩
        case measure => simp [intOf]; omega
end Go.Proofs.Ytbgegkagnahlpaa
