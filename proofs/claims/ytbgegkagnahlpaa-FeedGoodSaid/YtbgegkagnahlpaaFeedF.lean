/-
  The walk of fed: pieces of bytes fed one behind the other, and the end.
-/
import Derived.Test.YtbgegkagnahlpaaFeedR
namespace Go.Proofs.Ytbgegkagnahlpaa
open Go.RowKit
set_option linter.unusedVariables false
set_option linter.unusedSimpArgs false

/-- The bytes of all pieces. -/
def catF (ps : List ByteArray) : List Nat := ps.flatMap nums
def fedL (ps : List ByteArray) : List Int := (brkF (mch (catF ps))).out
theorem catF_lt (ps : List ByteArray) : ∀ x ∈ catF ps, x < 256 := by
  intro x hx
  obtain ⟨s, _, hs⟩ := List.mem_flatMap.1 hx
  exact nums_lt s x hs
theorem catF_len : ∀ (ps : List ByteArray), (∀ s ∈ ps, s.size ≤ 4096) → (catF ps).length ≤ 4096 * ps.length
  | [], _ => by simp [catF]
  | s :: ps, h => by
    have h1 := catF_len ps (fun x hx => h x (by simp [hx]))
    have h2 := h s (by simp)
    have h3 := nums_len s
    unfold catF at *
    rw [List.flatMap_cons, List.length_append, List.length_cons]
    omega
theorem catF_snoc {ps : List ByteArray} {j : Nat} (h : j < ps.length) : catF (ps.take (j + 1)) = catF (ps.take j) ++ nums ps[j] := by
  unfold catF
  rw [List.take_succ_eq_append_getElem h, List.flatMap_append]
  simp
theorem mch_more (l k : List Nat) : mch (l ++ k) = ⟨(mchA (mch l).ah k).ah, (mch l).out ++ (mchA (mch l).ah k).out⟩ := by
  unfold mch mchA
  rw [runM_app]
  exact run_add k (runM l ⟨[], []⟩).ah (runM l ⟨[], []⟩).out
theorem brk_out (m : Mch) : (brkF m).out = m.out ++ (brkF ⟨m.ah, []⟩).out := by
  unfold brkF
  by_cases h : m.ah.length = 0
  · rw [if_pos h, if_pos h]; simp
  · rw [if_neg h, if_neg h]; simp

theorem ints_one (l : List Int) : ∀ u ∈ l.map (Value.int .i64), u.oneCell' = true := by
  intro u hu
  obtain ⟨x, _, rfl⟩ := List.mem_map.1 hu
  rfl

set_option maxRecDepth 20000 in
set_option maxHeartbeats 8000000 in
theorem fed_walk {ps : List ByteArray} {A : Option Addr} {n c : Nat} {w : World} (hr : Rd w 1 A n c (ps.map Value.string)) (hn : n ≤ 16) :
    Calls Try.prog 19 #[.slice A n c] w fun e w' => ((∀ s ∈ ps, s.size ≤ 4096) → ∃ O q d, e = .returned (.tuple #[.slice O q d, .bool true]) ∧ Ints w' O q d (fedL ps)) ∧ (¬ (∀ s ∈ ps, s.size ≤ 4096) → e = .returned (.tuple #[.slice none 0 0, .bool false])) ∧ Ext w w' := by
  obtain ⟨i0, hi, hz0, hz1, hz2⟩ := info_parts info_int
  have hlen : ps.length = n := by have := hr.len; rw [List.length_map] at this; omega
  have hnc := hr.ncap
  have hcm := hr.nmax
  unfold maxLen at hcm
  have HL := Lib.hid hlen
  have HI := Lib.hid hi
  have e0 : strN (mch (catF (ps.take 0))).ah = ⟨#[]⟩ := by simp [catF, mch, runM_nil, strN]
  have e1 : Hid ((mch (catF (ps.take 0))).out = []) := Lib.hid (by simp [catF, mch, runM_nil])
  clear hi
  go_enter Try.func19, Try.ntmps19
  go_wp2_with fail
  go_loopw [4, 5, 15] (fun v p iv wr => ∃ (j q d : Nat) (O : Option Addr), j ≤ n ∧ v = .slice O q d ∧ p = .string (strN (mch (catF (ps.take j))).ah) ∧ iv = .int .i64 j ∧ OwnI wr w.heap.size O q d (mch (catF (ps.take j))).out ∧ Hid (∀ s ∈ ps.take j, s.size ≤ 4096) ∧ Ext w wr) (fun _ _ iv _ => n - (intOf iv).toNat)
  case atStart => exact ⟨0, 0, 0, none, by omega, rfl, by rw [e0], rfl, by rw [e1.out]; exact OwnI.nil _ _, Lib.hid (by simp), Ext.refl _⟩
  case round =>
    clear e0 e1
    obtain ⟨j, q, d, O, hj, rfl, rfl, rfl, hown, hsm, he⟩ := hrel
    by_cases hlt : j < n
    · obtain ⟨ad, rfl, hc⟩ := hr.at_ hlt
      have hjl : j < ps.length := by omega
      have d1 := he.cell (hc j (.string ps[j]) (by rw [List.getElem?_map, List.getElem?_eq_getElem hjl]; rfl))
      have hps : ps[j] ∈ ps := List.getElem_mem hjl
      have hpre := mch_pre (catF (ps.take j))
      have hal := mch_lt (catF_lt (ps.take j))
      have hmo := mch_out (catF (ps.take j))
      have hcl := catF_len (ps.take j) hsm.out
      rw [List.length_take] at hcl
      have hql := hown.ints.len
      have Hsn := Lib.hid (catF_snoc hjl)
      have Hts : Hid (ps[j].size ≤ 4096 → ∀ s ∈ ps.take (j + 1), s.size ≤ 4096) := Lib.hid (fun h s hs => by
        rw [List.take_succ_eq_append_getElem hjl] at hs
        rcases List.mem_append.1 hs with hs | hs
        · exact hsm.out s hs
        · obtain rfl := List.mem_singleton.1 hs; exact h)
      have hq3 : q ≤ 65536 := by omega
      by_cases hsz : ps[j].size ≤ 4096
      · have HF := Lib.hid (feed_ok (w := wr) hpre hal hsz)
        have HM : Hid (mch (catF (ps.take (j + 1))) = ⟨(mchA (mch (catF (ps.take j))).ah (nums ps[j])).ah, (mch (catF (ps.take j))).out ++ (mchA (mch (catF (ps.take j))).ah (nums ps[j])).out⟩) := Lib.hid (by rw [Hsn.out]; exact mch_more _ _)
        have hmo2 := mch_out (catF (ps.take (j + 1)))
        have hcl2 := catF_len (ps.take (j + 1)) (Hts.out hsz)
        rw [List.length_take] at hcl2
        rw [HM.out] at hmo2
        simp only [List.length_append] at hmo2
        have hs2 := Hts.out hsz
        clear hsm Hts hps hpre hal hcl hmo Hsn
        generalize (mch (catF (ps.take j))).ah = ah at *
        generalize (mch (catF (ps.take j))).out = out at *
        generalize mchA ah (nums ps[j]) = m2 at *
        have HS2 := Lib.hid hs2
        have Hb : Hid (out.length + m2.out.length ≤ 65536) := Lib.hid (by omega)
        have HQl := Lib.hid hql
        clear hs2 hmo2 hcl2 hql hlen
        generalize ps[j] = s at *
        generalize strN ah = sa at *
        have hi := HI.out
        go_wp2_with fail
        refine HF.out.mono ?_
        rintro e w2 ⟨O2, q2, dd2, rfl, ho2, he2⟩
        have hql2 : m2.out.length = q2 := ho2.len
        have hqb : q + q2 ≤ 65536 := by have h1 := Hb.out; have h2 := HQl.out; omega
        have hown2 := OwnI.ext hown he2
        have he3 := he.trans he2
        have HQ2 := Lib.hid hql2
        clear HF hown d1 hc hql2
        go_wp2_with (at_builtin; refine wpList_app rfl (.tmp 29) (.tmp 30) 26 rfl w w.heap.size 3 i0 (.int .i64 0) 1 8 Try.underlying26 hi hz0 hz1 hz2 rfl (by decide) O q d _ rfl hown2 O2 q2 dd2 _ rfl ho2 (ints_one _) ?_ ?_ he3 (Nat.le_refl _) he3.hsize ?_)
        · unfold maxLen; omega
        · omega
        · intro A4 c4 w4 hO4 hgr hor he4
          have hO5 : OwnI w4 w.heap.size A4 (q + q2) c4 (mch (catF (ps.take (j + 1)))).out := by rw [HM.out]; simpa [OwnI] using hO4
          have hE5 : Hid (strN m2.ah = strN (mch (catF (ps.take (j + 1)))).ah) := Lib.hid (by rw [HM.out])
          clear hO4 hgr hor hown2 ho2 he3 hi he2
          go_wp2_with fail
          go_roundw
          case rel => exact ⟨j + 1, q + q2, c4, A4, by omega, rfl, by rw [hE5.out], by go_num, hO5, HS2, he4⟩
          case measure => simp [intOf]; omega
      · have HF := Lib.hid (feed_big (w := wr) hpre hal (by omega : 4096 < ps[j].size))
        have HNo : Hid (¬ ∀ s ∈ ps, s.size ≤ 4096) := Lib.hid fun h => hsz (h _ hps)
        clear hsm Hts hps hpre hal hcl hmo Hsn hql hown hsz
        generalize (mch (catF (ps.take j))).ah = ah at *
        generalize ps[j] = s at *
        generalize strN ah = sa at *
        go_wp2_with fail
        refine HF.out.mono ?_
        rintro e w2 ⟨rfl, he2⟩
        have hend := he.trans he2
        clear HF d1 he he2 hc
        go_wp2_with fail
        go_ret2
        exact ⟨fun h => absurd h HNo.out, fun _ => rfl, hend⟩
    · obtain rfl : j = n := by omega
      have htk : ps.take j = ps := List.take_of_length_le (by omega)
      rw [htk] at hown hsm ⊢
      have hpre := mch_pre (catF ps)
      have hal := mch_lt (catF_lt ps)
      have hmo := mch_out (catF ps)
      have hcl := catF_len ps hsm.out
      have hql := hown.ints.len
      have hq3 : q ≤ 65536 := by omega
      have HF : Hid (∀ wq, Calls Try.prog 24 #[.string (strN (mch (catF ps)).ah)] wq fun e w' => ∃ O q d, e = .returned (.tuple #[.slice O q d, .int .i64 0]) ∧ Ints w' O q d (brkF ⟨(mch (catF ps)).ah, []⟩).out ∧ Ext wq w') := Lib.hid fun wq => end_ok hpre hal
      have HD : Hid (fedL ps = (mch (catF ps)).out ++ (brkF ⟨(mch (catF ps)).ah, []⟩).out) := Lib.hid (brk_out _)
      have Hbl : Hid ((brkF ⟨(mch (catF ps)).ah, []⟩).out.length ≤ 1) := Lib.hid (by unfold brkF; split <;> simp)
      clear hpre hal hmo hcl hql htk hlen
      generalize (brkF ⟨(mch (catF ps)).ah, []⟩).out = o2 at *
      generalize (mch (catF ps)).out = o1 at *
      generalize strN (mch (catF ps)).ah = sa at *
      have hi := HI.out
      go_wp2_with fail
      refine (HF.out _).mono ?_
      rintro e w2 ⟨O2, q2, dd2, rfl, ho2, he2⟩
      have hql2 : o2.length = q2 := ho2.len
      have hqb : q2 ≤ 1 := by have h1 := Hbl.out; omega
      have hown2 := OwnI.ext hown he2
      have he3 := he.trans he2
      clear HF hown hql2 Hbl
      go_wp2_with (at_builtin; refine wpList_app rfl (.tmp 38) (.tmp 39) 26 rfl w w.heap.size 3 i0 (.int .i64 0) 1 8 Try.underlying26 hi hz0 hz1 hz2 rfl (by decide) O q d _ rfl hown2 O2 q2 dd2 _ rfl ho2 (ints_one _) ?_ ?_ he3 (Nat.le_refl _) he3.hsize ?_)
      · unfold maxLen; omega
      · omega
      · intro A4 c4 w4 hO4 hgr hor he4
        have hO4' : OwnI w4 w.heap.size A4 (q + q2) c4 (o1 ++ o2) := by simpa [OwnI] using hO4
        have hO5 : Hid (Ints w4 A4 (q + q2) c4 (fedL ps)) := Lib.hid (by rw [HD.out]; exact hO4'.ints)
        clear hO4'
        clear hO4 hgr hor hown2 ho2 he3 hi he2
        go_wp2_with fail
        go_ret2
        exact ⟨fun _ => ⟨A4, q + q2, c4, rfl, hO5.out⟩, fun h => absurd hsm.out h, he4⟩
end Go.Proofs.Ytbgegkagnahlpaa
