/-
  The walks of feed's run, Check, Feed, End.
-/
import Derived.Test.YtbgegkagnahlpaaFeedK
namespace Go.Proofs.Ytbgegkagnahlpaa
open Go.RowKit
set_option linter.unusedVariables false
set_option linter.unusedSimpArgs false

/-- What the machine is behind these bytes. -/
def mch (l : List Nat) : Mch := runM l ⟨[], []⟩
theorem mch_pre (l : List Nat) : Pre (mch l).ah := (run_all l [] trivial).1
theorem mch_out (l : List Nat) : (mch l).out.length ≤ l.length := by have := (run_all l [] trivial).2.2; unfold mch; simp at this; omega
theorem mch_scal (l : List Nat) : ∀ c ∈ (mch l).out, scal c := (run_all l [] trivial).2.1
theorem mch_lt {l : List Nat} (h : ∀ x ∈ l, x < 256) : ∀ x ∈ (mch l).ah, x < 256 := by
  obtain ⟨p, hp⟩ := run_tail l []
  intro x hx
  refine h x ?_
  have : x ∈ [] ++ l := by rw [hp]; exact List.mem_append_right _ hx
  simpa using this
theorem mch_snoc (l : List Nat) (b : Nat) : mch (l ++ [b]) = tkF ⟨(mch l).ah, (mch l).out⟩ b := runM_snoc l b _

theorem take_nums {l : List Nat} {k : Nat} (h : k < l.length) : l.take (k + 1) = l.take k ++ [gN l k] := by
  rw [List.take_succ_eq_append_getElem h]
  simp [gN, List.getElem?_eq_getElem h]

set_option maxRecDepth 20000 in
set_option maxHeartbeats 4000000 in
theorem run_ok {s : ByteArray} {w : World} (hs : s.size ≤ 8200) :
    Calls Try.prog 23 #[.string s] w fun e w' => ∃ g, e = .returned (.pointer (some ⟨g, 0, none⟩)) ∧ MachAt w' g (mch (nums s)) ∧ w.heap.size ≤ g ∧ Ext w w' := by
  have HN := Lib.hid (nums_len s)
  have HLt := Lib.hid (nums_lt s)
  have HM0 : Hid (MachAt (w.alloc (.cells #[.slice none 0 0, .slice none 0 0] 58)) w.heap.size (mch [])) :=
    Lib.hid ⟨none, 0, 0, none, 0, 0, Blk.new _ _ _, Own.nil _ _ _ _, OwnI.nil _ _⟩
  go_enter Try.func23, Try.ntmps23
  go_wp2_with fail
  go_loopw [9] (fun iv wr => ∃ k : Nat, k ≤ s.size ∧ iv = .int .i64 k ∧ Hid (MachAt wr w.heap.size (mch ((nums s).take k))) ∧ Ext w wr) (fun iv _ => s.size - (intOf iv).toNat)
  case atStart => exact ⟨0, by omega, rfl, HM0, Ext.alloc _ _⟩
  case round =>
    clear HM0
    obtain ⟨k, hk, rfl, hM, he⟩ := hrel
    by_cases hlt : k < s.size
    · have hik := nums_at s k hlt
      have HT := Lib.hid (take_ok (w0 := w) (b := gN (nums s) k) (ah := (mch ((nums s).take k)).ah) (out := (mch ((nums s).take k)).out) hM.out (mch_pre _) (Lib.hid (mch_lt (fun x hx => HLt.out x (List.mem_of_mem_take hx)))) (gN_lt HLt.out k) he (Nat.le_refl _) (by have h1 := mch_out ((nums s).take k); rw [List.length_take] at h1; omega))
      rw [← mch_snoc, ← take_nums (by rw [HN.out]; exact hlt)] at HT
      clear hM
      go_wp2_with fail
      refine HT.out.mono ?_
      rintro e w2 ⟨rfl, hM2, he2⟩
      have HM2 := Lib.hid hM2
      clear HT hM2 he
      go_wp2_with fail
      go_roundw
      case rel => exact ⟨k + 1, by omega, by go_num, HM2, he2⟩
      case measure => simp [intOf]; omega
    · obtain rfl : k = s.size := by omega
      have HM2 : Hid (MachAt wr w.heap.size (mch (nums s))) := Lib.hid (by have := hM.out; rwa [List.take_of_length_le (by rw [HN.out]; exact Nat.le_refl _)] at this)
      clear hM
      go_wp2_with fail
      go_ret
      exact ⟨_, rfl, HM2.out, Nat.le_refl _, he⟩

set_option maxRecDepth 20000 in
set_option maxHeartbeats 4000000 in
theorem check_ok {s : ByteArray} {w : World} (hs : s.size ≤ 8200) :
    Calls Try.prog 18 #[.string s] w fun e w' => e = .returned (.int .i64 (if (mch (nums s)).out.length = 0 then 0 else 4)) ∧ Ext w w' := by
  have HR := Lib.hid (run_ok (w := w) hs)
  generalize mch (nums s) = m at *
  obtain ⟨z, hz⟩ : ∃ z : Int, (if m.out.length = 0 then 0 else 4) = z := ⟨_, rfl⟩
  rw [hz]
  have HZ := Lib.hid hz
  clear hz
  go_enter Try.func18, Try.ntmps18
  go_wp2_with fail
  refine HR.out.mono ?_
  rintro e w1 ⟨g, rfl, hM, hg, he⟩
  obtain ⟨A, n, c, O, q, d, hb, ha, ho⟩ := hM
  have k1 := hb.cell 1
  simp only [List.getElem?_toArray, List.getElem?_cons_zero, List.getElem?_cons_succ] at k1
  have hql : Hid (m.out.length = q) := Lib.hid ho.ints.len
  clear HR hb ha ho
  by_cases h0 : q = 0
  · subst h0
    go_wp2_with fail
    go_ret
    exact ⟨ret_int (by rw [← HZ.out, if_pos hql.out]), he⟩
  · have hq : 0 < q := by omega
    go_wp2_with fail
    go_ret
    exact ⟨ret_int (by rw [← HZ.out, if_neg (by rw [hql.out]; exact h0)]), he⟩
theorem check_pre {ah : List Nat} {w : World} (hp : Pre ah) (hlt : ∀ x ∈ ah, x < 256) :
    Calls Try.prog 18 #[.string (strN ah)] w fun e w' => e = .returned (.int .i64 0) ∧ Ext w w' := by
  have h := check_ok (s := strN ah) (w := w) (by rw [strN_size]; have := pre_len hp; omega)
  rw [nums_strN hlt] at h
  unfold mch at h
  rw [run_pre hp] at h
  exact h

/-- What comes of bytes behind what is pending. -/
def mchA (ah : List Nat) (l : List Nat) : Mch := runM l ⟨ah, []⟩
theorem mchA_eq {ah : List Nat} (hp : Pre ah) (l : List Nat) : mch (ah ++ l) = mchA ah l := by unfold mch mchA; rw [runM_app, run_pre hp]

set_option maxRecDepth 20000 in
set_option maxHeartbeats 4000000 in
theorem feed_big {ah : List Nat} {s : ByteArray} {w : World} (hp : Pre ah) (hlt : ∀ x ∈ ah, x < 256) (hs : 4096 < s.size) :
    Calls Try.prog 17 #[.string (strN ah), .string s] w fun e w' => e = .returned (.tuple #[.string ⟨#[]⟩, .slice none 0 0, .int .i64 2]) ∧ Ext w w' := by
  have HC := Lib.hid (check_pre (w := w) hp hlt)
  clear hp hlt
  generalize strN ah = p at *
  go_enter Try.func17, Try.ntmps17
  go_wp2_with fail
  refine HC.out.mono ?_
  rintro e w1 ⟨rfl, he⟩
  go_wp2_with fail
  go_ret3
  exact ⟨rfl, he⟩

set_option maxRecDepth 20000 in
set_option maxHeartbeats 4000000 in
theorem feed_ok {ah : List Nat} {s : ByteArray} {w : World} (hp : Pre ah) (hlt : ∀ x ∈ ah, x < 256) (hs : s.size ≤ 4096) :
    Calls Try.prog 17 #[.string (strN ah), .string s] w fun e w' => ∃ O q d, e = .returned (.tuple #[.string (strN (mchA ah (nums s)).ah), .slice O q d, .int .i64 0]) ∧ Ints w' O q d (mchA ah (nums s)).out ∧ Ext w w' := by
  have HC := Lib.hid (check_pre (w := w) hp hlt)
  have hz := strN_size ah
  have h3 := pre_len hp
  have HR : Hid (∀ wq, Calls Try.prog 23 #[.string (strN ah ++ s)] wq fun e w' => ∃ g, e = .returned (.pointer (some ⟨g, 0, none⟩)) ∧ MachAt w' g (mchA ah (nums s)) ∧ wq.heap.size ≤ g ∧ Ext wq w') := Lib.hid fun wq => by
    have h := run_ok (s := strN ah ++ s) (w := wq) (by rw [ByteArray.size_append, hz]; omega)
    rwa [nums_app, nums_strN hlt, mchA_eq hp] at h
  clear hp hlt
  generalize mchA ah (nums s) = m at *
  generalize strN ah = p at *
  generalize ah.length = z at *
  go_enter Try.func17, Try.ntmps17
  go_wp2_with fail
  refine HC.out.mono ?_
  rintro e w1 ⟨rfl, he1⟩
  clear HC
  go_wp2_with fail
  refine (HR.out _).mono ?_
  rintro e w2 ⟨g, rfl, hM, hg, he2⟩
  obtain ⟨A, n, c, O, q, d, hb, ha, ho⟩ := hM
  have k0 := hb.cell 0
  have k1 := hb.cell 1
  simp only [List.getElem?_toArray, List.getElem?_cons_zero, List.getElem?_cons_succ] at k0 k1
  have hcv := conv_bytes (Rd.ext (Own.rd ha) (Ext.drew w2))
  have HO := Lib.hid (ho.ints.ext (Ext.drew w2))
  have hend := (he1.trans he2).to_drew
  clear HR hb ha ho he1 he2 hg
  go_wp2_with fail
  go_region_with fail
  all_goals
    go_wp2_with fail
    go_ret3
    exact ⟨O, q, d, rfl, HO.out, hend⟩

set_option maxRecDepth 20000 in
set_option maxHeartbeats 4000000 in
theorem end_ok {ah : List Nat} {w : World} (hp : Pre ah) (hlt : ∀ x ∈ ah, x < 256) :
    Calls Try.prog 24 #[.string (strN ah)] w fun e w' => ∃ O q d, e = .returned (.tuple #[.slice O q d, .int .i64 0]) ∧ Ints w' O q d (brkF ⟨ah, []⟩).out ∧ Ext w w' := by
  have HC := Lib.hid (check_pre (w := w) hp hlt)
  have hz := strN_size ah
  have h3 := pre_len hp
  have HR : Hid (∀ wq, Calls Try.prog 23 #[.string (strN ah)] wq fun e w' => ∃ g, e = .returned (.pointer (some ⟨g, 0, none⟩)) ∧ MachAt w' g ⟨ah, []⟩ ∧ wq.heap.size ≤ g ∧ Ext wq w') := Lib.hid fun wq => by
    have h := run_ok (s := strN ah) (w := wq) (by rw [hz]; omega)
    rw [nums_strN hlt] at h
    unfold mch at h
    rwa [run_pre hp] at h
  clear hp hlt hz
  generalize strN ah = p at *
  go_enter Try.func24, Try.ntmps24
  go_wp2_with fail
  refine HC.out.mono ?_
  rintro e w1 ⟨rfl, he1⟩
  clear HC
  go_wp2_with fail
  refine (HR.out _).mono ?_
  rintro e w2 ⟨g, rfl, hM, hg, he2⟩
  have HB := Lib.hid (broken_ok (w0 := w1) hM he2 hg (by simp))
  clear HR hM he2
  obtain ⟨m, hmE⟩ : ∃ m, brkF ⟨ah, []⟩ = m := ⟨_, rfl⟩
  rw [hmE] at HB
  have HmE := Lib.hid hmE
  clear hmE
  go_wp2_with fail
  refine HB.out.mono ?_
  rintro e w3 ⟨rfl, hM, he3⟩
  obtain ⟨A, n, c, O, q, d, hb, ha, ho⟩ := hM
  have k1 := hb.cell 1
  simp only [List.getElem?_toArray, List.getElem?_cons_zero, List.getElem?_cons_succ] at k1
  have HO := Lib.hid ho.ints
  have hend := he1.trans he3
  clear HB hb ha ho he1 he3 hg
  go_wp2_with fail
  go_ret2
  exact ⟨O, q, d, rfl, by rw [HmE.out]; exact HO.out, hend⟩
end Go.Proofs.Ytbgegkagnahlpaa
