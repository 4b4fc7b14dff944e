/-
  The walk of FeedGood.
-/
import Derived.Test.YtbgegkagnahlpaaFeedC
namespace Go.Proofs.Ytbgegkagnahlpaa
open Go.RowKit
set_option linter.unusedVariables false
set_option linter.unusedSimpArgs false

theorem fed_text {l : List Int} (h : ∀ c ∈ l, scal c) : fedL [strN (encL l)] = l := by
  unfold fedL catF
  rw [List.flatMap_cons, List.flatMap_nil, List.append_nil, nums_strN (encL_lt h)]
  unfold mch
  rw [run_text l [] h]
  simp [brkF]
theorem fedL_one (s : ByteArray) : fedL [s] = (brkF (mch (nums s))).out := by unfold fedL catF; rw [List.flatMap_cons, List.flatMap_nil, List.append_nil]
theorem fedL_scal (s : ByteArray) : ∀ c ∈ fedL [s], scal c := by
  rw [fedL_one]
  intro c hc
  unfold brkF at hc
  split at hc
  · exact mch_scal _ c hc
  · rcases List.mem_append.1 hc with hc | hc
    · exact mch_scal _ c hc
    · obtain rfl := List.mem_singleton.1 hc; decide
theorem fedL_len (s : ByteArray) : (fedL [s]).length ≤ s.size := by
  rw [fedL_one]
  have h := (run_all (nums s) [] trivial).2.2
  rw [nums_len] at h
  unfold brkF mch
  split
  · simp at h; omega
  · rename_i h0
    simp at h ⊢
    omega
theorem fedL_same {s : ByteArray} (h : allE s.size (nums s) = 0) : strN (encL (fedL [s])) = s := by
  obtain ⟨k1, k2, k3, k4, k5, _⟩ := all_is s.size (nums s) (nums_lt s) (by rw [nums_len]; exact Nat.le_refl _)
  rw [k5 h, List.take_length] at k3
  have e : s = strN (encL (allL s.size (nums s))) := by rw [← k3, strN_nums]
  have h2 := fed_text k1
  rw [← e] at h2
  rw [h2]
  exact e.symm
theorem lit_ff : fedL [⟨#[255, 97]⟩] = [65533, 97] := by decide +kernel

set_option maxRecDepth 20000 in
set_option maxHeartbeats 8000000 in
theorem feedGood_walk {l : List Int} {s : ByteArray} {A : Option Addr} {n d : Nat} {w : World} (hl : Ints w A n d l) (hn : n ≤ 17592186043904) (hs : s.size ≤ 140737488351232) :
    Calls Try.prog 9 #[.slice A n d, .string s] w fun e w' => e = .returned (.bool true) ∧ Ext w w' := by
  have HF1 : Hid (∀ wq : World, Calls Try.prog 19 #[.slice (some ⟨wq.heap.size, 0, none⟩) 1 1] (wq.alloc (.cells #[.string ⟨#[255, 97]⟩] 9)) fun e w' => ∃ O q d, e = .returned (.tuple #[.slice O q d, .bool true]) ∧ Ints w' O q d [65533, 97] ∧ Ext (wq.alloc (.cells #[.string ⟨#[255, 97]⟩] 9)) w') := Lib.hid fun wq => by
    refine (fed_walk (lit1 (w := wq) ⟨#[255, 97]⟩) (by omega)).mono ?_
    rintro e w' ⟨k1, _, k3⟩
    obtain ⟨O, q, d, k4, k5⟩ := k1 (by intro s hs; obtain rfl := List.mem_singleton.1 hs; decide)
    rw [lit_ff] at k5
    exact ⟨O, q, d, k4, k5, k3⟩
  have HT : Hid (∀ wq : World, Ext w wq → Calls Try.prog 12 #[.slice A n d] wq fun e w' => ((∀ x ∈ l, scal x) → e = .returned (.tuple #[.string (strN (encL l)), .int .i64 0])) ∧ (¬ (∀ x ∈ l, scal x) → e = .returned (.tuple #[.string ⟨#[]⟩, .int .i64 1])) ∧ Ext wq w') := Lib.hid fun wq he => text_walk (hl.ext he) hn
  have HI := Lib.hid hl
  have hlen := Lib.hid hl.len
  have hle := encL_le l
  clear hl
  go_enter Try.func9, Try.ntmps9
  go_wp2_with fail
  refine (HF1.out _).mono ?_
  rintro e w1 ⟨O1, q1, d1, rfl, i1, he1⟩
  have hx1 := (Ext.alloc w (.cells #[.string ⟨#[255, 97]⟩] 9)).trans he1
  have hI : Ints (w1.alloc (.cells #[.int .i64 65533, .int .i64 97] 3)) (some ⟨w1.heap.size, 0, none⟩) 2 2 [65533, 97] := Blk.ints (l := [65533, 97]) (Blk.new _ _ _) rfl (by decide)
  have ex := Ext.alloc w1 (.cells #[.int .i64 65533, .int .i64 97] 3)
  have HQ := Lib.hid (equal_true (i1.ext ex) hI)
  have hx2 := hx1.trans ex
  clear HF1 i1 he1 hx1 hI ex
  go_wp2_with fail
  refine HQ.out.mono ?_
  rintro e w2 ⟨rfl, he2⟩
  have hx3 := hx2.trans he2
  clear HQ hx2 he2
  have HTc := Lib.hid (HT.out w2 hx3)
  clear HT
  go_wp2_with fail
  refine HTc.out.mono ?_
  rintro e w3 ⟨k1, k2, he3⟩
  have hx4 := hx3.trans he3
  clear HTc hx3 he3
  -- what the second half says, wherever it begins
  have HF2 : Hid (s.size ≤ 4096 → ∀ wq : World, Calls Try.prog 19 #[.slice (some ⟨wq.heap.size, 0, none⟩) 1 1] (wq.alloc (.cells #[.string s] 9)) fun e w' => ∃ O q d, e = .returned (.tuple #[.slice O q d, .bool true]) ∧ Ints w' O q d (fedL [s]) ∧ Ext (wq.alloc (.cells #[.string s] 9)) w') := Lib.hid fun hz wq => by
    refine (fed_walk (lit1 (w := wq) s) (by omega)).mono ?_
    rintro e w' ⟨k1, _, k3⟩
    obtain ⟨O, q, d, k4, k5⟩ := k1 (by simpa using hz)
    exact ⟨O, q, d, k4, k5, k3⟩
  have HF3 : Hid (4096 < s.size → ∀ wq : World, Calls Try.prog 19 #[.slice (some ⟨wq.heap.size, 0, none⟩) 1 1] (wq.alloc (.cells #[.string s] 9)) fun e w' => e = .returned (.tuple #[.slice none 0 0, .bool false]) ∧ Ext (wq.alloc (.cells #[.string s] 9)) w') := Lib.hid fun hz wq => by
    refine (fed_walk (lit1 (w := wq) s) (by omega)).mono ?_
    rintro e w' ⟨_, k2, k3⟩
    exact ⟨k2 (by simp; omega), k3⟩
  have HA := Lib.hid (fun (wq : World) (h : s.size ≤ 4096) => all_ok (s := s) (w := wq) (by omega) (by have := (all_is s.size (nums s) (nums_lt s) (by rw [nums_len]; exact Nat.le_refl _)).2.2.2.1; have h2 := (all_is s.size (nums s) (nums_lt s) (by rw [nums_len]; exact Nat.le_refl _)).2.1; rw [nums_len] at h2; omega))
  have HX := Lib.hid (fun (wq : World) (O : Option Addr) (q d : Nat) (h : Ints wq O q d (fedL [s])) (hz : s.size ≤ 4096) => text_walk h (by have h1 := h.len; have h2 := fedL_len s; omega))
  have HSc := Lib.hid (fedL_scal s)
  have HLn := Lib.hid (fedL_len s)
  have HSm := Lib.hid (fun h => fedL_same (s := s) h)
  by_cases hsc : ∀ x ∈ l, scal x
  · obtain rfl := k1 hsc
    have hsz := strN_size (encL l)
    by_cases hsm : (encL l).length ≤ 4096
    · have HF4 : Hid (∀ wq : World, Calls Try.prog 19 #[.slice (some ⟨wq.heap.size, 0, none⟩) 1 1] (wq.alloc (.cells #[.string (strN (encL l))] 9)) fun e w' => ∃ O q d, e = .returned (.tuple #[.slice O q d, .bool true]) ∧ Ints w' O q d l ∧ Ext (wq.alloc (.cells #[.string (strN (encL l))] 9)) w') := Lib.hid fun wq => by
        refine (fed_walk (lit1 (w := wq) (strN (encL l))) (by omega)).mono ?_
        rintro e w' ⟨k1, _, k3⟩
        obtain ⟨O, q, d, k4, k5⟩ := k1 (by simp [hsz]; exact hsm)
        rw [fed_text hsc] at k5
        exact ⟨O, q, d, k4, k5, k3⟩
      clear k1 k2 hsc
      generalize strN (encL l) = t at *
      generalize (encL l).length = z at *
      go_wp2_with fail
      refine (HF4.out _).mono ?_
      rintro e w4 ⟨O4, q4, d4, rfl, i4, he4⟩
      have hx5 := hx4.trans ((Ext.alloc w3 (.cells #[.string t] 9)).trans he4)
      have HQ := Lib.hid (equal_true i4 (HI.out.ext hx5))
      clear HF4 i4 he4 hx4
      go_wp2_with fail
      refine HQ.out.mono ?_
      rintro e w5 ⟨rfl, he5⟩
      have hx6 := hx5.trans he5
      clear HQ hx5 he5 hle hsz
      by_cases hz : s.size ≤ 4096
      · have HFc := Lib.hid (HF2.out hz)
        have HAc := Lib.hid (fun wq => HA.out wq hz)
        have HXc := Lib.hid (fun wq O q d h => HX.out wq O q d h hz)
        have HLc := HLn.out
        clear HF2 HF3 HA HX HLn
        go_wp2_with fail
        refine (HFc.out _).mono ?_
        rintro e w6 ⟨O6, q6, d6, rfl, i6, he6⟩
        have hx7 := hx6.trans ((Ext.alloc w5 (.cells #[.string s] 9)).trans he6)
        have hq6 : q6 ≤ s.size := by have h1 := i6.len; omega
        have HTx := Lib.hid (HXc.out w6 O6 q6 d6 i6)
        have HEq : Hid ((∀ x ∈ fedL [s], scal x) ∧ (allE s.size (nums s) = 0 → strN (encL (fedL [s])) = s)) := Lib.hid ⟨HSc.out, HSm.out⟩
        clear HFc HXc i6 he6 hx6 HSc HSm HLc
        generalize fedL [s] = L at *
        go_wp2_with fail
        refine HTx.out.mono ?_
        rintro e w7 ⟨k1, _, he7⟩
        obtain rfl := k1 HEq.out.1
        have hx8 := hx7.trans he7
        have HAx := Lib.hid (HAc.out w7)
        have HE2 := Lib.hid HEq.out.2
        clear HTx k1 hx7 he7 HAc HEq
        generalize strN (encL L) = tx at *
        generalize hE : allE s.size (nums s) = ee at *
        generalize allW s.size (nums s) = ww at *
        clear hE
        go_wp2_with fail
        refine HAx.out.mono ?_
        rintro e w8 ⟨O8, q8, d8, l8, rfl, _, _, _, he8⟩
        have hend := hx8.trans he8
        clear HAx hx8 he8
        by_cases h0 : ee = 0
        · subst h0
          obtain rfl := HE2.out rfl
          clear HE2
          go_wp2_with fail
          go_ret
          exact ⟨rfl, hend⟩
        · have h0i : ((ee : Int) != 0) = true := by simp; omega
          clear HE2
          go_wp2_with fail
          go_ret
          exact ⟨rfl, hend⟩
      · have HFc := Lib.hid (HF3.out (by omega))
        clear HF2 HF3 HA HX HLn HSc HSm
        go_wp2_with fail
        refine (HFc.out _).mono ?_
        rintro e w6 ⟨rfl, he6⟩
        have hend := hx6.trans ((Ext.alloc w5 (.cells #[.string s] 9)).trans he6)
        have hzI : (4096 : Int) < (s.size : Int) := by omega
        clear HFc
        go_wp2_with fail
        go_ret
        exact ⟨ret_bool (by simp), hend⟩
    · clear k1 k2 hsc
      generalize strN (encL l) = t at *
      generalize (encL l).length = z at *
      have hx6 := hx4
      have hzz : ¬ (z : Int) ≤ 4096 := by omega
      clear hx4
      obtain ⟨w5, rfl⟩ : ∃ w5, w5 = w3 := ⟨_, rfl⟩
      by_cases hz : s.size ≤ 4096
      · have HFc := Lib.hid (HF2.out hz)
        have HAc := Lib.hid (fun wq => HA.out wq hz)
        have HXc := Lib.hid (fun wq O q d h => HX.out wq O q d h hz)
        have HLc := HLn.out
        clear HF2 HF3 HA HX HLn
        go_wp2_with fail
        refine (HFc.out _).mono ?_
        rintro e w6 ⟨O6, q6, d6, rfl, i6, he6⟩
        have hx7 := hx6.trans ((Ext.alloc w5 (.cells #[.string s] 9)).trans he6)
        have hq6 : q6 ≤ s.size := by have h1 := i6.len; omega
        have HTx := Lib.hid (HXc.out w6 O6 q6 d6 i6)
        have HEq : Hid ((∀ x ∈ fedL [s], scal x) ∧ (allE s.size (nums s) = 0 → strN (encL (fedL [s])) = s)) := Lib.hid ⟨HSc.out, HSm.out⟩
        clear HFc HXc i6 he6 hx6 HSc HSm HLc
        generalize fedL [s] = L at *
        go_wp2_with fail
        refine HTx.out.mono ?_
        rintro e w7 ⟨k1, _, he7⟩
        obtain rfl := k1 HEq.out.1
        have hx8 := hx7.trans he7
        have HAx := Lib.hid (HAc.out w7)
        have HE2 := Lib.hid HEq.out.2
        clear HTx k1 hx7 he7 HAc HEq
        generalize strN (encL L) = tx at *
        generalize hE : allE s.size (nums s) = ee at *
        generalize allW s.size (nums s) = ww at *
        clear hE
        go_wp2_with fail
        refine HAx.out.mono ?_
        rintro e w8 ⟨O8, q8, d8, l8, rfl, _, _, _, he8⟩
        have hend := hx8.trans he8
        clear HAx hx8 he8
        by_cases h0 : ee = 0
        · subst h0
          obtain rfl := HE2.out rfl
          clear HE2
          go_wp2_with fail
          go_ret
          exact ⟨rfl, hend⟩
        · have h0i : ((ee : Int) != 0) = true := by simp; omega
          clear HE2
          go_wp2_with fail
          go_ret
          exact ⟨rfl, hend⟩
      · have HFc := Lib.hid (HF3.out (by omega))
        clear HF2 HF3 HA HX HLn HSc HSm
        go_wp2_with fail
        refine (HFc.out _).mono ?_
        rintro e w6 ⟨rfl, he6⟩
        have hend := hx6.trans ((Ext.alloc w5 (.cells #[.string s] 9)).trans he6)
        have hzI : (4096 : Int) < (s.size : Int) := by omega
        clear HFc
        go_wp2_with fail
        go_ret
        exact ⟨ret_bool (by simp), hend⟩
  · obtain rfl := k2 hsc
    clear k1 k2 hsc hle
    have hx6 := hx4
    clear hx4
    obtain ⟨w5, rfl⟩ : ∃ w5, w5 = w3 := ⟨_, rfl⟩
    by_cases hz : s.size ≤ 4096
    · have HFc := Lib.hid (HF2.out hz)
      have HAc := Lib.hid (fun wq => HA.out wq hz)
      have HXc := Lib.hid (fun wq O q d h => HX.out wq O q d h hz)
      have HLc := HLn.out
      clear HF2 HF3 HA HX HLn
      go_wp2_with fail
      refine (HFc.out _).mono ?_
      rintro e w6 ⟨O6, q6, d6, rfl, i6, he6⟩
      have hx7 := hx6.trans ((Ext.alloc w5 (.cells #[.string s] 9)).trans he6)
      have hq6 : q6 ≤ s.size := by have h1 := i6.len; omega
      have HTx := Lib.hid (HXc.out w6 O6 q6 d6 i6)
      have HEq : Hid ((∀ x ∈ fedL [s], scal x) ∧ (allE s.size (nums s) = 0 → strN (encL (fedL [s])) = s)) := Lib.hid ⟨HSc.out, HSm.out⟩
      clear HFc HXc i6 he6 hx6 HSc HSm HLc
      generalize fedL [s] = L at *
      go_wp2_with fail
      refine HTx.out.mono ?_
      rintro e w7 ⟨k1, _, he7⟩
      obtain rfl := k1 HEq.out.1
      have hx8 := hx7.trans he7
      have HAx := Lib.hid (HAc.out w7)
      have HE2 := Lib.hid HEq.out.2
      clear HTx k1 hx7 he7 HAc HEq
      generalize strN (encL L) = tx at *
      generalize hE : allE s.size (nums s) = ee at *
      generalize allW s.size (nums s) = ww at *
      clear hE
      go_wp2_with fail
      refine HAx.out.mono ?_
      rintro e w8 ⟨O8, q8, d8, l8, rfl, _, _, _, he8⟩
      have hend := hx8.trans he8
      clear HAx hx8 he8
      by_cases h0 : ee = 0
      · subst h0
        obtain rfl := HE2.out rfl
        clear HE2
        go_wp2_with fail
        go_ret
        exact ⟨rfl, hend⟩
      · have h0i : ((ee : Int) != 0) = true := by simp; omega
        clear HE2
        go_wp2_with fail
        go_ret
        exact ⟨rfl, hend⟩
    · have HFc := Lib.hid (HF3.out (by omega))
      clear HF2 HF3 HA HX HLn HSc HSm
      go_wp2_with fail
      refine (HFc.out _).mono ?_
      rintro e w6 ⟨rfl, he6⟩
      have hend := hx6.trans ((Ext.alloc w5 (.cells #[.string s] 9)).trans he6)
      have hzI : (4096 : Int) < (s.size : Int) := by omega
      clear HFc
      go_wp2_with fail
      go_ret
      exact ⟨ret_bool (by simp), hend⟩
end Go.Proofs.Ytbgegkagnahlpaa
