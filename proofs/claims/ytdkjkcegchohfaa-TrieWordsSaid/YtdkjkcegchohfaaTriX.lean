/-
  New, at, Count, Has.
-/
import Derived.Test.YtdkjkcegchohfaaTriW
import Derived.Test.YtdkjkcegchohfaaHisM
import Derived.Test.YtdkjkcegchohfaaLitL
namespace Go.Proofs.Ytdkjkcegchohfaa
open Go.RowKit
set_option linter.unusedVariables false
set_option linter.unusedSimpArgs false
attribute [local go_sem] Oper.semAt_some

/-- Words that the trie takes. -/
def GoodT (ls : List (List Int)) : Prop := ls.length ≤ 100 ∧ ∀ i, i < ls.length → (gL ls i).length ≤ 24

set_option maxRecDepth 20000 in
set_option maxHeartbeats 1000000 in
theorem right_ok {A : Option Addr} {n c : Nat} {ls : List (List Int)} {w : World} (hl : Lns w A n c ls) :
    Calls Try.prog 51 #[.slice A n c] w fun e w' => w' = w ∧ ((¬ GoodT ls ∧ e = .returned (.int .i64 2)) ∨ (GoodT ls ∧ e = .returned (.int .i64 0))) := by
  have hnl := hl.len
  have HL := Lib.hid hl
  have hnc := hl.ncap
  have hcm := hl.nmax
  have HGb : Hid (∀ i, i < n → 24 < (gL ls i).length → ¬ GoodT ls) := Lib.hid (fun i hi h1 h2 => by have := h2.2 i (by omega); omega)
  unfold maxLen at hcm
  clear hl
  by_cases h1 : 100 < n
  · have HN : Hid (¬ GoodT ls) := Lib.hid (fun h => by have := h.1; omega)
    go_enter Try.func51, Try.ntmps51
    go_wp2_with fail
    go_ret
    exact ⟨rfl, .inl ⟨HN.out, rfl⟩⟩
  go_enter Try.func51, Try.ntmps51
  go_wp2_with fail
  go_loopw [10] (fun i wr => ∃ j : Nat, j ≤ n ∧ i = .int .i64 j ∧ Hid (∀ k, k < j → (gL ls k).length ≤ 24) ∧ wr = w) (fun i _ => n + 1 - (intOf i).toNat)
  case atStart => exact ⟨0, by omega, rfl, Lib.hid (fun k hk => by omega), rfl⟩
  case round =>
    obtain ⟨j, hj, rfl, hlow, rfl⟩ := hrel
    by_cases hlt : j < n
    · obtain ⟨ad, v, rfl, hc, B, m, d, rfl, hi, hBd, hm8⟩ := HL.out.at_ hlt
      have hml := hi.len
      have hmx := Nat.le_trans hi.ncap hi.nmax
      unfold maxLen at hmx
      clear hi
      by_cases hbig : 24 < m
      · have HN := Lib.hid (HGb.out j hlt (by rw [hml]; exact hbig))
        go_wp2_with fail
        go_ret
        exact ⟨rfl, .inl ⟨HN.out, rfl⟩⟩
      · have hlow' : Hid (∀ k, k < j + 1 → (gL ls k).length ≤ 24) := Lib.hid (fun k hk => by
          rcases Nat.lt_or_ge k j with h | h
          · exact hlow.out k h
          · have : k = j := by omega
            subst this; omega)
        clear hlow
        go_wp2_with fail
        go_roundw
        case rel => exact ⟨j + 1, by omega, by go_num, hlow', by trivial⟩
        case measure => simp [intOf]; omega
    · obtain rfl : j = n := by omega
      go_wp2_with fail
      go_ret
      exact ⟨rfl, .inr ⟨⟨by omega, fun i hi => hlow.out i (by omega)⟩, rfl⟩⟩

/-- All numbers are numbers that an int holds. -/
def WfL (ls : List (List Int)) : Prop := ∀ i, i < ls.length → ∀ y ∈ gL ls i, (Lit.int .i64 y).wf = true

set_option maxRecDepth 20000 in
set_option maxHeartbeats 1000000 in
theorem tnew_ok {A : Option Addr} {n c : Nat} {ls : List (List Int)} {w : World} (hl : Lns w A n c ls) (hwf : WfL ls) :
    Calls Try.prog 26 #[.slice A n c] w fun e w' => Ext w w' ∧ ((¬ GoodT ls ∧ e = .returned (.tuple #[.pointer none, .int .i64 2])) ∨
      (GoodT ls ∧ ∃ b0 K ns, w.heap.size ≤ b0 ∧ K ≤ 2600 ∧ TrIs w' b0 K (FS (distinct ls)) ns ∧ e = .returned (.tuple #[(ns []).ptr, .int .i64 0]))) := by
  have HN := Lib.hid hl.len
  have HL := Lib.hid hl
  have HWF := Lib.hid hwf
  have hnc := hl.ncap
  have hcm := hl.nmax
  have HR := Lib.hid (right_ok hl)
  unfold maxLen at hcm
  clear hl hwf
  go_enter Try.func26, Try.ntmps26
  go_wp2_with fail
  refine HR.out.mono ?_
  rintro e w ⟨rfl, ⟨hno, rfl⟩ | ⟨hgood, rfl⟩⟩
  · have HNo := Lib.hid hno
    clear hno
    go_wp2_with fail
    go_ret2
    exact ⟨Ext.refl _, .inl ⟨HNo.out, rfl⟩⟩
  · have HG := Lib.hid hgood
    have hn1 : n ≤ 100 := by have := hgood.1; have := HN.out; omega
    have hT0 := TrIs.start w
    have hx0 := Ext.alloc w (.cells (trC none (false, 0)) 97)
    have HT0 := Lib.hid hT0
    clear hgood hT0
    go_wp2_with fail
    go_loopw [17] (fun i wr => ∃ (j K : Nat) (ns : List Int → TrN), j ≤ n ∧ K ≤ 26 * j ∧ i = .int .i64 j ∧ Hid (TrIs wr w.heap.size K (FS (distinct (ls.take j))) ns ∧ (ns []).a = w.heap.size) ∧ Ext w wr) (fun i _ => n + 1 - (intOf i).toNat)
    case atStart => exact ⟨0, 0, _, by omega, by omega, rfl, Lib.hid ⟨HT0.out, rfl⟩, hx0⟩
    case round =>
      obtain ⟨j, K, ns, hj, hK, rfl, HT, he⟩ := hrel
      by_cases hlt : j < n
      · obtain ⟨ad, v, rfl, hc, B, m, d, rfl, hi, hBd, hm8⟩ := HL.out.at_ hlt
        have c1 := he.cell hc
        have hml := HG.out.2 j (by rw [HN.out]; exact hlt)
        have hp := tput_ok (gL ls j) HT.out.1 (p := []) HT.out.1.root hi (HWF.out j (by rw [HN.out]; exact hlt)) (by omega) he
        rw [FS_add, ← distinct_snoc, take_gL (by rw [HN.out]; exact hlt)] at hp
        unfold TrN.ptr at hp
        rw [HT.out.2] at hp
        clear hi hc
        go_wp2_with fail
        refine hp.mono ?_
        rintro e w2 ⟨rfl, ns2, hT2, he2, hA2⟩
        have hT3 : Hid (TrIs w2 w.heap.size (K + (gL ls j).length + 1) (FS (distinct (ls.take (j + 1)))) ns2 ∧ (ns2 []).a = w.heap.size) := Lib.hid ⟨hT2, (hA2 [] HT.out.1.root).trans HT.out.2⟩
        clear hp hT2 hA2
        go_wp2_with fail
        go_roundw
        case rel => exact ⟨j + 1, _, ns2, by omega, by omega, by go_num, hT3, he2⟩
        case measure => simp [intOf]; omega
      · obtain rfl : j = n := by omega
        go_wp2_with fail
        go_ret2
        refine ⟨he, .inr ⟨HG.out, w.heap.size, K, ns, Nat.le_refl _, by omega, ?_, by unfold TrN.ptr; rw [HT.out.2]; rfl⟩⟩
        have := HT.out.1
        rwa [List.take_of_length_le (by rw [HN.out]; exact Nat.le_refl _)] at this

theorem TrIs.up_app {w : World} {b0 K : Nat} {F : TF} {ns : List Int → TrN} (h : TrIs w b0 K F ns) (a : List Int) : ∀ b : List Int, (F (a ++ b)).isSome → (F a).isSome := by
  intro b
  have key : ∀ (n : Nat) (b : List Int), b.length = n → (F (a ++ b)).isSome → (F a).isSome := by
    intro n
    induction n with
    | zero => intro b hb h; rw [List.eq_nil_of_length_eq_zero hb, List.append_nil] at h; exact h
    | succ n ih =>
      intro b hb h'
      have hne : b ≠ [] := fun e => by rw [e] at hb; simp at hb
      rw [← List.dropLast_concat_getLast hne, ← List.append_assoc] at h'
      exact ih b.dropLast (by simp [hb]) (h.up _ _ h')
  exact key _ b rfl

/-- What 'at' tells. -/
def atV (F : TF) (ns : List Int → TrN) (q : List Int) : Value := if (F q).isSome then (ns q).ptr else .pointer none
set_option maxRecDepth 20000 in
set_option maxHeartbeats 1000000 in
theorem tat_ok {F : TF} {ns : List Int → TrN} {p q : List Int} {b0 K n c : Nat} {A : Option Addr} {w : World} (hT : TrIs w b0 K F ns) (hp : (F p).isSome) (hq : Ints w A n c q) (hwf : ∀ y ∈ q, (Lit.int .i64 y).wf = true) :
    Calls Try.prog 53 #[(ns p).ptr, .slice A n c] w fun e w' => w' = w ∧ e = .returned (atV F ns (p ++ q)) := by
  have HT := Lib.hid hT
  have HQ := Lib.hid hq
  have HN := Lib.hid hq.len
  have HWF := Lib.hid hwf
  have hnc := hq.ncap
  have hcm := hq.nmax
  have HP := Lib.hid hp
  unfold maxLen at hcm
  unfold TrN.ptr
  clear hT hq hwf hp
  go_enter Try.func53, Try.ntmps53
  go_wp2_with fail
  go_loopw [0, 9] (fun tv i wr => ∃ k : Nat, k ≤ n ∧ i = .int .i64 k ∧ Hid ((F (p ++ q.take k)).isSome) ∧ tv = .pointer (some ⟨(ns (p ++ q.take k)).a, 0, none⟩) ∧ wr = w) (fun _ i _ => n + 1 - (intOf i).toNat)
  case atStart => exact ⟨0, by omega, rfl, by simpa using HP, by simp, rfl⟩
  case round =>
    obtain ⟨k, hk, rfl, HF, rfl, rfl⟩ := hrel
    by_cases hlt : k < n
    · obtain ⟨ad, rfl, hc⟩ := HQ.out.at_ hlt
      have c1 := hc k hlt
      have hwk : (Lit.int .i64 (gI q k)).wf = true := HWF.out _ (by unfold gI; rw [List.getElem?_eq_getElem (by rw [HN.out]; exact hlt)]; exact List.getElem_mem _)
      have hte : p ++ q.take (k + 1) = p ++ q.take k ++ [gI q k] := by
        rw [List.take_add_one, List.append_assoc]
        congr 2
        unfold gI
        rw [List.getElem?_eq_getElem (by rw [HN.out]; exact hlt)]; rfl
      have HTE := Lib.hid hte
      obtain ⟨v, hv⟩ := Option.isSome_iff_exists.1 HF.out
      have c0 := (HT.out.cells hv).1
      have hmk := HT.out.kids _ HF.out
      unfold MapAt at hmk
      clear hc hte hv
      rcases hm : (ns (p ++ q.take k)).m with _ | m
      · rw [hm] at hmk c0
        have hno : Hid (F (p ++ q.take k ++ [gI q k]) = none) := Lib.hid (hmk _)
        have hln : ∀ u, (Instr.lookup 95 (.map none) (.int .i64 (gI q k)) false).run Try.prog u = .ok (.pointer none) u := fun u => by
          have := Maps.look_nil (w := u) false key_intV Try.underlying95 (zero_trie u) (Maps.keyOf_int_mk Try.underlying3 hwk)
          exact this
        clear hmk
        go_wp2_with fail
        go_ret
        have hno2 : ¬ (F (p ++ q)).isSome = true := fun h => by
          have e : p ++ q = (p ++ q.take (k + 1)) ++ q.drop (k + 1) := by rw [List.append_assoc, List.take_append_drop]
          rw [e] at h
          have := HT.out.up_app _ _ h
          rw [HTE.out, hno.out] at this
          cases this
        refine ⟨rfl, ?_⟩
        unfold atV
        rw [if_neg hno2]
        rfl
      · rw [hm] at hmk c0
        have hmg := hmk.2.get Try.underlying95 (zero_trie _) hwk
        unfold kidV at hmg
        clear hmk
        rcases hkf : F (p ++ q.take k ++ [gI q k]) with _ | vk
        · rw [hkf] at hmg
          simp only [Option.isSome_none, Bool.false_eq_true, if_false, Option.getD_none] at hmg
          have hno := Lib.hid hkf
          clear hkf
          go_wp2_with fail
          go_ret
          have hno2 : ¬ (F (p ++ q)).isSome = true := fun h => by
            have e : p ++ q = (p ++ q.take (k + 1)) ++ q.drop (k + 1) := by rw [List.append_assoc, List.take_append_drop]
            rw [e] at h
            have := HT.out.up_app _ _ h
            rw [HTE.out, hno.out] at this
            cases this
          refine ⟨rfl, ?_⟩
          unfold atV
          rw [if_neg hno2]
          rfl
        · rw [hkf] at hmg
          simp only [Option.isSome_some, if_true, Option.getD_some] at hmg
          unfold TrN.ptr at hmg
          have hys := Lib.hid hkf
          clear hkf
          go_wp2_with fail
          go_roundw
          case rel => exact ⟨k + 1, by omega, by go_num, Lib.hid (by rw [HTE.out, hys.out]; rfl), by rw [HTE.out, List.append_assoc], by trivial⟩
          case measure => simp [intOf]; omega
    · obtain rfl : k = n := by omega
      go_wp2_with fail
      go_ret
      have e : q.take k = q := List.take_of_length_le (by rw [HN.out]; exact Nat.le_refl _)
      have h1 := HF.out
      rw [e] at h1 ⊢
      refine ⟨rfl, ?_⟩
      unfold atV
      rw [if_pos h1]
      rfl

set_option maxRecDepth 20000 in
set_option maxHeartbeats 1000000 in
theorem tcount_ok {F : TF} {ns : List Int → TrN} {q : List Int} {b0 K n c : Nat} {A : Option Addr} {w : World} (hT : TrIs w b0 K F ns) (hq : Ints w A n c q) (hwf : ∀ y ∈ q, (Lit.int .i64 y).wf = true) :
    Calls Try.prog 28 #[(ns []).ptr, .slice A n c] w fun e w' => w' = w ∧ e = .returned (.int .i64 (atF F q).2) := by
  have hc := tat_ok hT hT.root hq hwf
  rw [List.nil_append] at hc
  unfold atV at hc
  have HT := Lib.hid hT
  clear hT hq hwf
  unfold TrN.ptr at hc ⊢
  rcases hF : F q with _ | v
  · have e : Hid ((atF F q).2 = 0) := Lib.hid (by unfold atF; rw [hF]; rfl)
    rw [hF, Option.isSome_none, if_neg (by simp)] at hc
    clear hF
    go_enter Try.func28, Try.ntmps28
    go_wp2_with fail
    refine hc.mono ?_
    rintro e _ ⟨rfl, rfl⟩
    go_wp2_with fail
    go_ret
    exact ⟨rfl, ret_int (by rw [e.out]; rfl)⟩
  · have e : Hid ((atF F q).2 = v.2) := Lib.hid (by unfold atF; rw [hF]; rfl)
    rw [hF, Option.isSome_some, if_pos rfl] at hc
    obtain ⟨c0, c1, c2, cf⟩ := HT.out.cells hF
    clear hF c0 c1 cf
    go_enter Try.func28, Try.ntmps28
    go_wp2_with fail
    refine hc.mono ?_
    rintro e _ ⟨rfl, rfl⟩
    go_wp2_with fail
    go_ret
    exact ⟨rfl, ret_int (by rw [e.out])⟩

set_option maxRecDepth 20000 in
set_option maxHeartbeats 1000000 in
theorem thas_ok {F : TF} {ns : List Int → TrN} {q : List Int} {b0 K n c : Nat} {A : Option Addr} {w : World} (hT : TrIs w b0 K F ns) (hq : Ints w A n c q) (hwf : ∀ y ∈ q, (Lit.int .i64 y).wf = true) :
    Calls Try.prog 30 #[(ns []).ptr, .slice A n c] w fun e w' => w' = w ∧ e = .returned (.bool (atF F q).1) := by
  have hc := tat_ok hT hT.root hq hwf
  rw [List.nil_append] at hc
  unfold atV at hc
  have HT := Lib.hid hT
  clear hT hq hwf
  unfold TrN.ptr at hc ⊢
  rcases hF : F q with _ | v
  · have e : Hid ((atF F q).1 = false) := Lib.hid (by unfold atF; rw [hF]; rfl)
    rw [hF, Option.isSome_none, if_neg (by simp)] at hc
    clear hF
    go_enter Try.func30, Try.ntmps30
    go_wp2_with fail
    refine hc.mono ?_
    rintro e _ ⟨rfl, rfl⟩
    go_wp2_with fail
    go_ret
    exact ⟨rfl, ret_bool (by rw [e.out])⟩
  · have e : Hid ((atF F q).1 = v.1) := Lib.hid (by unfold atF; rw [hF]; rfl)
    rw [hF, Option.isSome_some, if_pos rfl] at hc
    obtain ⟨c0, c1, c2, cf⟩ := HT.out.cells hF
    clear hF c0 c2 cf
    go_enter Try.func30, Try.ntmps30
    go_wp2_with fail
    refine hc.mono ?_
    rintro e _ ⟨rfl, rfl⟩
    go_wp2_with fail
    go_ret
    exact ⟨rfl, ret_bool (by rw [e.out])⟩
end Go.Proofs.Ytdkjkcegchohfaa
