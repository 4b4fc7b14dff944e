/-
  The walks of utf.All, Text, Count.
-/
import Derived.Test.YtbgegkagnahlpaaUtfW
import Derived.Test.YtbgegkagnahlpaaUtfH
import Derived.Test.YtbgegkagnahlpaaLibA
import Derived.Laws.RangeAny
namespace Go.Proofs.Ytbgegkagnahlpaa
open Go.RowKit
set_option linter.unusedVariables false
set_option linter.unusedSimpArgs false

theorem all_stop {f : Nat} {r : List Nat} (h0 : r.length ≠ 0) (h : getE r ≠ 0) : allL (f + 1) r = [] ∧ allE (f + 1) r = getE r ∧ allW (f + 1) r = 0 := by
  have hn : r.length = 0 ∨ getE r ≠ 0 := .inr h
  exact ⟨by rw [allL, if_pos hn], by rw [allE, if_neg h0, if_pos h], by rw [allW, if_pos hn]⟩
theorem all_step {f : Nat} {r : List Nat} (h0 : r.length ≠ 0) (h : getE r = 0) : allL (f + 1) r = (getC r : Int) :: allL f (r.drop (getW r)) ∧ allE (f + 1) r = allE f (r.drop (getW r)) ∧ allW (f + 1) r = getW r + allW f (r.drop (getW r)) := by
  have hn : ¬ (r.length = 0 ∨ getE r ≠ 0) := by rw [h]; simp only [ne_eq, not_true_eq_false, or_false]; exact h0
  exact ⟨by rw [allL, if_neg hn], by rw [allE, if_neg h0, if_neg (by rw [h]; simp)], by rw [allW, if_neg hn]⟩
theorem all_end {f : Nat} {r : List Nat} (h0 : r.length = 0) : allL f r = [] ∧ allE f r = 0 ∧ allW f r = 0 := by
  cases f with
  | zero => exact ⟨rfl, rfl, rfl⟩
  | succ f => exact ⟨by rw [allL, if_pos (.inl h0)], by rw [allE, if_pos h0], by rw [allW, if_pos (.inl h0)]⟩
theorem get_fits {r : List Nat} (hb : ∀ x ∈ r, x < 256) (h : getE r = 0) : 1 ≤ getW r ∧ getW r ≤ r.length := by
  obtain ⟨h1, h2, m, h3⟩ := get_is hb h
  have hp := encN_len_pos (getC r)
  have := congrArg List.length h3
  rw [List.length_append] at this
  omega

set_option maxRecDepth 20000 in
set_option maxHeartbeats 4000000 in
theorem all_ok {s : ByteArray} {w : World} (hs : s.size ≤ 9223372036854775807) (hM : (allL s.size (nums s)).length ≤ 17592186043904) :
    Calls Try.prog 14 #[.string s] w fun e w' => ∃ A q c l, e = .returned (.tuple #[.slice A q c, .int .i64 (allW s.size (nums s)), .int .i64 (allE s.size (nums s))]) ∧ Ints w' A q c l ∧
      (allE s.size (nums s) = 0 → l = allL s.size (nums s)) ∧ (allE s.size (nums s) ≠ 0 → l = []) ∧ Ext w w' := by
  obtain ⟨i0, hi, hz0, hz1, hz2⟩ := info_parts info_int
  have HN := Lib.hid (nums_len s)
  have HB := Lib.hid (nums_lt s)
  have HG : Hid (∀ (k : Nat) (wq : World), Calls Try.prog 11 #[.string (s.extract k s.size)] wq fun e w' => e = .returned (.tuple #[.int .i64 (getC ((nums s).drop k)), .int .i64 (getW ((nums s).drop k)), .int .i64 (getE ((nums s).drop k))]) ∧ wq = w') :=
    Lib.hid fun k wq => by rw [← nums_from]; exact get_ok _ _
  have HL0 : Hid (allL s.size (nums s) = [] ++ allL s.size ((nums s).drop 0)) := Lib.hid (by rw [List.drop_zero]; rfl)
  have HW0 : Hid (allW s.size (nums s) = 0 + allW s.size ((nums s).drop 0)) := Lib.hid (by rw [List.drop_zero, Nat.zero_add])
  have HE0 : Hid (allE s.size (nums s) = allE s.size ((nums s).drop 0)) := Lib.hid (by rw [List.drop_zero])
  generalize hLL : allL s.size (nums s) = LL at *
  generalize hWW : allW s.size (nums s) = WW at *
  generalize hEE : allE s.size (nums s) = EE at *
  clear hLL hWW hEE
  have HMx := Lib.hid hM
  clear hM
  go_enter Try.func14, Try.ntmps14
  go_wp2_with fail
  go_loopw [5, 6] (fun v i wr => ∃ (k f q c : Nat) (A : Option Addr) (out : List Int), i = .int .i64 k ∧ v = .slice A q c ∧ OwnI wr w.heap.size A q c out ∧ k ≤ s.size ∧ Hid (s.size - k ≤ f) ∧
    Hid (LL = out ++ allL f ((nums s).drop k)) ∧ Hid (WW = k + allW f ((nums s).drop k)) ∧ Hid (EE = allE f ((nums s).drop k)) ∧ Ext w wr) (fun _ i _ => s.size - (intOf i).toNat)
  case atStart => exact ⟨0, s.size, 0, 0, none, [], rfl, rfl, OwnI.nil _ _, by omega, Lib.hid (by omega), HL0, HW0, HE0, Ext.refl _⟩
  case round =>
    clear HL0 HW0 HE0
    obtain ⟨k, f, q, c, A, out, rfl, rfl, hown, hks, hf, hL, hW, hE, he⟩ := hrel
    by_cases hlt : k < s.size
    · have hr0 : ((nums s).drop k).length ≠ 0 := by rw [List.length_drop, HN.out]; omega
      obtain ⟨f, rfl⟩ : ∃ f', f = f' + 1 := ⟨f - 1, by have := hf.out; omega⟩
      by_cases hg : getE ((nums s).drop k) = 0
      · obtain ⟨a1, a2, a3⟩ := all_step (f := f) hr0 hg
        obtain ⟨g1, g2⟩ := get_fits (fun x hx => HB.out x (List.mem_of_mem_drop hx)) hg
        rw [List.length_drop, HN.out] at g2
        have HC := Lib.hid (HG.out k)
        rw [hg] at HC
        have hL' : Hid (LL = (out ++ [(getC ((nums s).drop k) : Int)]) ++ allL f ((nums s).drop (k + getW ((nums s).drop k)))) := Lib.hid (by rw [hL.out, a1, List.drop_drop]; simp)
        have hW' : Hid (WW = (k + getW ((nums s).drop k)) + allW f ((nums s).drop (k + getW ((nums s).drop k)))) := Lib.hid (by rw [hW.out, a3, List.drop_drop]; omega)
        have hE' : Hid (EE = allE f ((nums s).drop (k + getW ((nums s).drop k)))) := Lib.hid (by rw [hE.out, a2, List.drop_drop])
        have hq : q + 1 ≤ 17592186043904 := by
          have e1 := congrArg List.length hL'.out
          rw [List.length_append, List.length_append, List.length_singleton] at e1
          have e2 := hown.ints.len
          have e3 := HMx.out
          omega
        clear hL hW hE a1 a2 a3 hg hr0
        generalize getC ((nums s).drop k) = gc at *
        generalize getW ((nums s).drop k) = gw at *
        go_wp2_with fail
        refine (HC.out _).mono ?_
        rintro e w' ⟨rfl, rfl⟩
        clear HC
        go_wp2_with (at_builtin; refine wpList_push rfl (.tmp 26) (.tmp 28) 26 rfl w w.heap.size 3 i0 (.int .i64 0) 1 8 Try.underlying26 hi hz0 hz1 hz2 rfl (by decide) A q c _ rfl hown #[.int .i64 gc] rfl ?_ rfl ?_ ?_ he (Nat.le_refl _) he.hsize ?_)
        · rfl
        · unfold maxLen; omega
        · omega
        · intro A2 c2 w2 hown2 hgr hor he2
          have hown3 : OwnI w2 w.heap.size A2 (q + 1) c2 (out ++ [(gc : Int)]) := by simpa [OwnI] using hown2
          clear hown hown2 hgr hor he
          go_wp2_with fail
          go_roundw
          case rel => exact ⟨k + gw, f, q + 1, c2, A2, _, by go_num, rfl, hown3, by omega, Lib.hid (by have := hf.out; omega), hL', hW', hE', he2⟩
          case measure => simp [intOf]; omega
      · obtain ⟨a1, a2, a3⟩ := all_stop (f := f) hr0 hg
        have HC := Lib.hid (HG.out k)
        have hW' : Hid (WW = k) := Lib.hid (by rw [hW.out, a3, Nat.add_zero])
        have hE' : Hid (EE = getE ((nums s).drop k)) := Lib.hid (by rw [hE.out, a2])
        have hne : ((getE ((nums s).drop k) : Int) != 0) = true := by simp; omega
        have hX : Hid (EE ≠ 0) := Lib.hid (by rw [hE'.out]; exact hg)
        clear hL hW hE a1 a2 a3 hg hr0
        generalize getE ((nums s).drop k) = ge at *
        generalize getC ((nums s).drop k) = gc at *
        generalize getW ((nums s).drop k) = gw at *
        go_wp2_with fail
        refine (HC.out _).mono ?_
        rintro e w' ⟨rfl, rfl⟩
        clear HC
        go_wp2_with fail
        go_ret3
        refine ⟨none, 0, 0, [], ?_, Ints.none_ _, fun h => absurd h hX.out, fun _ => rfl, he⟩
        rw [hW'.out, hE'.out]; rfl
    · obtain rfl : k = s.size := by omega
      have hr0 : ((nums s).drop s.size).length = 0 := by rw [List.length_drop, HN.out]; omega
      obtain ⟨a1, a2, a3⟩ := all_end (f := f) hr0
      have hL' : Hid (out = LL) := Lib.hid (by rw [hL.out, a1, List.append_nil])
      have hW' : Hid (WW = s.size) := Lib.hid (by rw [hW.out, a3, Nat.add_zero])
      have hE' : Hid (EE = 0) := Lib.hid (by rw [hE.out, a2])
      clear hL hW hE a1 a2 a3 hr0
      go_wp2_with fail
      go_ret3
      refine ⟨A, q, c, out, ?_, hown.ints, fun _ => hL'.out, fun h => absurd hE'.out h, he⟩
      rw [hW'.out, hE'.out]; rfl

theorem info_rune : (Try.prog.info? 21).map (fun i => (i.zero, i.size, i.bytes)) = some (some (.int .i32 0), 1, 4) := by kernel_rfl
theorem conv_runes {w : World} {base n c : Nat} {A : Option Addr} {l : List Int} (h : Own w base 21 1 A n c (l.map (Value.int .i32))) (hs : ∀ x ∈ l, scal x) :
    (convert 54 9 (.slice A n c)).run Try.prog w = .ok (.string (strN (encL l))) w := by
  have hr := Own.rd h
  have hln : l.length = n := by have := hr.len; rw [List.length_map] at this; omega
  by_cases h0 : n = 0
  · subst h0
    obtain rfl : l = [] := List.length_eq_zero_iff.1 hln
    cases A with
    | none =>
      rw [run_convert_runes_nil w _ _ 21 0 c Try.underlying54 Try.underlying21 Try.underlying9]
      rfl
    | some a =>
      rw [run_convert_runes w _ _ 21 a 0 c [] (by simp) Try.underlying54 Try.underlying21 Try.underlying9 (by simp)]
      rfl
  · obtain ⟨a, rfl, _⟩ := hr.at_ (k := 0) (by omega)
    have hc : ∀ j, j < l.length → w.cell? (a.add j) = some (.int .i32 (l.getD j 0)) := by
      intro j hj
      obtain ⟨a', e1, hc⟩ := hr.at_ (k := j) (by omega)
      injection e1 with e1
      subst e1
      refine hc j _ ?_
      rw [List.getElem?_map, List.getElem?_eq_getElem hj]
      simp [List.getD, List.getElem?_eq_getElem hj]
    rw [run_convert_runes w _ _ 21 a n c l (by omega) Try.underlying54 Try.underlying21 Try.underlying9 hc, List.take_of_length_le (by omega), runesBytes_eq hs]

theorem take_snoc_i {l : List Int} {k : Nat} (h : k < l.length) : l.take (k + 1) = l.take k ++ [gI l k] := by
  rw [List.take_succ_eq_append_getElem h]
  simp [gI, List.getElem?_eq_getElem h]
theorem gI_mem {l : List Int} {k : Nat} (h : k < l.length) : gI l k ∈ l := by
  unfold gI; rw [List.getElem?_eq_getElem h]; exact List.getElem_mem h

set_option maxRecDepth 20000 in
set_option maxHeartbeats 4000000 in
theorem text_walk {l : List Int} {A : Option Addr} {n c : Nat} {w : World} (hl : Ints w A n c l) (hn : n ≤ 17592186043904) :
    Calls Try.prog 12 #[.slice A n c] w fun e w' => ((∀ x ∈ l, scal x) → e = .returned (.tuple #[.string (strN (encL l)), .int .i64 0])) ∧ (¬ (∀ x ∈ l, scal x) → e = .returned (.tuple #[.string ⟨#[]⟩, .int .i64 1])) ∧ Ext w w' := by
  obtain ⟨i0, hi, hz0, hz1, hz2⟩ := info_parts info_rune
  have hmk : ∀ u : World, (Instr.makeSlice 54 (.int .i64 0) (.int .i64 (n : Int))).run Try.prog u =
      .ok (.slice (some ⟨u.heap.size, 0, none⟩) 0 n) (u.alloc (.cells (madeCells #[.int .i32 0] n) 21)) := fun u => by
    have h := run_make (P := Try.prog) u 54 21 i0 (.int .i32 0) Try.underlying54 hi hz0 .i64 .i64 0 (n : Int) (by omega) (by omega) (by rw [hz2]; omega) (by omega)
    simpa [hz1, Value.cells] using h
  have hown0 : Own (w.alloc (.cells (madeCells #[.int .i32 0] n) 21)) w.heap.size 21 1 (some ⟨w.heap.size, 0, none⟩) 0 n [] :=
    World.ownsRow_made w _ _ (Nat.le_refl _) (by unfold maxLen; omega) (by simp [size_madeCells])
  have hlen := Lib.hid hl.len
  have HI := Lib.hid hi
  clear hi
  go_enter Try.func12, Try.ntmps12
  go_wp2_with fail
  go_loopw [4, 12] (fun v i wr => ∃ (k d : Nat) (B : Option Addr), k ≤ n ∧ v = .slice B k d ∧ i = .int .i64 k ∧ Own wr w.heap.size 21 1 B k d ((l.take k).map (Value.int .i32)) ∧ Hid (∀ x ∈ l.take k, scal x) ∧ Ext w wr) (fun _ i _ => n - (intOf i).toNat)
  case atStart => exact ⟨0, n, _, by omega, rfl, rfl, hown0, Lib.hid (by simp), Ext.alloc _ _⟩
  case round =>
    clear hown0 hmk
    obtain ⟨k, d, B, hk, rfl, rfl, hown, hsc, he⟩ := hrel
    by_cases hlt : k < n
    · obtain ⟨ad, rfl, hc⟩ := hl.at_ hlt
      have d1 := he.cell (hc k hlt)
      have hkl : k < l.length := by rw [hlen.out]; exact hlt
      by_cases hs : scal (gI l k)
      · have HS := Lib.hid (scalar_yes hs)
        have hw1 : IntKind.i32.wrap (gI l k) = gI l k := by rw [IntKind.wrap_i32]; have := hs.1; have := hs.2.1; omega
        have hsc' : Hid (∀ x ∈ l.take (k + 1), scal x) := Lib.hid (by
          rw [take_snoc_i hkl]
          intro x hx
          rcases List.mem_append.1 hx with hx | hx
          · exact hsc.out x hx
          · obtain rfl := List.mem_singleton.1 hx; exact hs)
        clear hs hsc
        have hi := HI.out
        go_wp2_with fail
        refine (HS.out _).mono ?_
        rintro e w' ⟨rfl, rfl⟩
        clear HS
        go_wp2_with (at_builtin; refine wpList_push rfl (.tmp 19) (.tmp 22) 54 rfl w w.heap.size 21 i0 (.int .i32 0) 1 4 Try.underlying54 hi hz0 hz1 hz2 rfl (by decide) B k d _ rfl hown #[.int .i32 (gI l k)] rfl ?_ rfl ?_ ?_ he (Nat.le_refl _) he.hsize ?_)
        · rfl
        · unfold maxLen; omega
        · omega
        · intro A2 c2 w2 hown2 hgr hor he2
          have hown3 : Own w2 w.heap.size 21 1 A2 (k + 1) c2 ((l.take (k + 1)).map (Value.int .i32)) := by rw [take_snoc_i hkl]; simpa using hown2
          clear hown hown2 hgr hor he d1 hc hi
          go_wp2_with fail
          go_roundw
          case rel => exact ⟨k + 1, c2, A2, by omega, rfl, by go_num, hown3, hsc', he2⟩
          case measure => simp [intOf]; omega
      · have HS := Lib.hid (scalar_no hs)
        have HN : Hid (¬ ∀ x ∈ l, scal x) := Lib.hid fun h => hs (h _ (gI_mem hkl))
        clear hs hsc
        go_wp2_with fail
        refine (HS.out _).mono ?_
        rintro e w' ⟨rfl, rfl⟩
        go_wp2_with fail
        go_ret2
        exact ⟨fun h => absurd h HN.out, fun _ => rfl, he⟩
    · obtain rfl : k = n := by omega
      have hsc' : Hid (∀ x ∈ l, scal x) := Lib.hid (by have := hsc.out; rwa [List.take_of_length_le (by rw [hlen.out]; exact Nat.le_refl _)] at this)
      rw [List.take_of_length_le (by rw [hlen.out]; exact Nat.le_refl _)] at hown
      have hcv := conv_runes hown hsc'.out
      clear hsc hown
      go_wp2_with fail
      go_ret2
      exact ⟨fun _ => rfl, fun h => absurd hsc'.out h, he⟩

theorem strN_size (l : List Nat) : (strN l).size = l.length := by
  show (strN l).data.size = _
  unfold strN
  simp
set_option maxRecDepth 20000 in
set_option maxHeartbeats 4000000 in
theorem count_ok {l : List Int} {w : World} (h : ∀ x ∈ l, scal x) (hn : l.length ≤ 17592186043904) :
    Calls Try.prog 15 #[.string (strN (encL l))] w fun e w' => e = .returned (.tuple #[.int .i64 l.length, .int .i64 0]) ∧ Ext w w' := by
  have e1 : nums (strN (encL l)) = encL l := nums_strN (encL_lt h)
  have hsz := strN_size (encL l)
  have hge := encL_ge l
  have hle := encL_le l
  obtain ⟨a1, a2, a3⟩ := all_enc l (strN (encL l)).size h (by rw [hsz]; exact hge)
  have HA := Lib.hid (all_ok (s := strN (encL l)) (w := w) (by rw [hsz]; omega) (by rw [e1, a1]; exact hn))
  rw [e1, a1, a2, a3] at HA
  have HX : Hid (∀ j, j < l.length → (encL (l.take j)).length < (strN (encL l)).size ∧ Utf8.decode (strN (encL l)) (encL (l.take j)).length = ((gI l j).toNat, (encN (gI l j).toNat).length)) := Lib.hid fun j hj => by
    have hm : l = l.take j ++ (gI l j :: l.drop (j + 1)) := by
      conv => lhs; rw [← List.take_append_drop (j + 1) l, take_snoc_i hj]
      simp
    have he : encL l = encL (l.take j) ++ (encN (gI l j).toNat ++ encL (l.drop (j + 1))) := by
      conv => lhs; rw [hm]
      rw [encL_app, encL_cons]
    refine ⟨?_, decode_enc (m := encL (l.drop (j + 1))) (scal_nat (h _ (gI_mem hj))) ?_⟩
    · have := encN_len_pos (gI l j).toNat
      have h2 := congrArg List.length he
      rw [List.length_append, List.length_append] at h2
      rw [hsz]; omega
    · rw [e1]
      conv => lhs; rw [he]
      exact List.drop_left
  have HS : Hid (∀ j, j < l.length → (encL (l.take (j + 1))).length = (encL (l.take j)).length + (encN (gI l j).toNat).length) := Lib.hid fun j hj => by
    rw [take_snoc_i hj, encL_app, List.length_append]; simp [encL]
  have HT : Hid ((encL (l.take l.length)).length = (strN (encL l)).size) := Lib.hid (by rw [List.take_length, hsz])
  clear e1 hsz hge hle a1 a2 a3 h
  generalize strN (encL l) = s at *
  generalize hpw : (encL l).length = pw at *
  clear hpw
  go_enter Try.func15, Try.ntmps15
  go_wp2_with fail
  refine HA.out.mono ?_
  rintro e w1 ⟨B, q, d, l2, rfl, _, _, _, he1⟩
  clear HA
  go_wp2_with fail
  go_loopw [7] (fun v wr => ∃ j : Nat, j ≤ l.length ∧ v = .int .i64 j ∧ wr = w1.iter s (encL (l.take j)).length) (fun v _ => l.length - (intOf v).toNat)
  case atStart => exact ⟨0, by omega, rfl, rfl⟩
  case round =>
    obtain ⟨j, hj, rfl, rfl⟩ := hrel
    by_cases hlt : j < l.length
    · obtain ⟨p1, p2⟩ := HX.out j hlt
      have p3 := HS.out j hlt
      have hnx : ∀ ty, (Instr.next (.pointer (some ⟨w1.heap.size, 0, none⟩)) true ty).run Try.prog (w1.iter s (encL (l.take j)).length) = .ok (.tuple #[.bool true, .int .i64 ((encL (l.take j)).length : Nat), .int .i32 ((gI l j).toNat : Nat)]) (w1.iter s (encL (l.take (j + 1))).length) := fun ty => by
        have := run_next_any (P := Try.prog) w1 s _ ty p1
        rw [p2] at this
        rw [p3]
        exact this
      clear p1 p2 p3
      go_wp2_with fail
      go_roundw
      case rel => exact ⟨j + 1, by omega, by go_num, rfl⟩
      case measure => simp [intOf]; omega
    · obtain rfl : j = l.length := by omega
      have hT := HT.out
      rw [List.take_length] at hT ⊢
      have hnx : ∀ ty, (Instr.next (.pointer (some ⟨w1.heap.size, 0, none⟩)) true ty).run Try.prog (w1.iter s (encL l).length) = .ok (.tuple #[.bool false]) (w1.iter s (encL l).length) := fun ty => run_next_end (P := Try.prog) w1 s _ ty (by omega)
      clear hT
      go_wp2_with fail
      go_ret2
      exact ⟨rfl, he1.trans (Ext.alloc _ _)⟩
end Go.Proofs.Ytbgegkagnahlpaa
