/-
  The walk of UtfSync.
-/
import Derived.Test.YtbgegkagnahlpaaUtfB
import Derived.Test.YtbgegkagnahlpaaUtfS
import Derived.Test.YtbgegkagnahlpaaRest
namespace Go.Proofs.Ytbgegkagnahlpaa
open Go.RowKit
set_option linter.unusedVariables false
set_option linter.unusedSimpArgs false

theorem lit_bad : getE (nums ⟨#[130, 172]⟩) = 4 := by decide

set_option maxRecDepth 20000 in
set_option maxHeartbeats 4000000 in
theorem utfSync_walk {l : List Int} {at' : Int} {A : Option Addr} {n d : Nat} {w : World} (hl : Ints w A n d l) (hn : n ≤ 17592186043904) :
    Calls Try.prog 4 #[.slice A n d, .int .i64 at'] w fun e w' => e = .returned (.bool true) ∧ Ext w w' := by
  have hmm := @run_makeMap Try.prog
  have HI := Lib.hid hl
  clear hl
  have hlen := Lib.hid HI.out.len
  have HT := Lib.hid (text_walk HI.out hn)
  have HG := Lib.hid (get_ok ⟨#[130, 172]⟩ w)
  rw [lit_bad] at HG
  generalize getC (nums ⟨#[130, 172]⟩) = z1 at *
  generalize getW (nums ⟨#[130, 172]⟩) = z2 at *
  go_enter Try.func4, Try.ntmps4
  go_wp2_with fail
  refine HG.out.mono ?_
  rintro e w' ⟨rfl, rfl⟩
  go_wp2_with fail
  by_cases hs : ∀ x ∈ l, scal x
  rotate_left
  · refine HT.out.mono ?_
    rintro e w1 ⟨_, h1, he1⟩
    obtain rfl := h1 hs
    clear hs h1 HT
    go_wp2_with fail
    go_ret
    exact ⟨rfl, he1⟩
  refine HT.out.mono ?_
  rintro e w1 ⟨h1, _, he1⟩
  obtain rfl := h1 hs
  clear h1 HT HG
  by_cases h0 : n = 0
  · obtain rfl : l = [] := List.length_eq_zero_iff.1 (by rw [hlen.out, h0])
    subst h0
    have e0 : (strN (encL [])).toList = [] := by rw [strN_toList]; rfl
    clear hs
    go_wp2_with fail
    go_ret
    exact ⟨rfl, he1⟩
  have hll := hlen.out
  have e1 : nums (strN (encL l)) = encL l := nums_strN (encL_lt hs)
  have hsz := strN_size (encL l)
  have hge := encL_ge l
  have hle := encL_le l
  have HS := Lib.hid hs
  have HX : Hid (∀ wq, Calls Try.prog 13 #[.int .i64 at', .int .i64 (encL l).length] wq fun e w' => e = .returned (.int .i64 (restF at' (encL l).length)) ∧ wq = w') :=
    Lib.hid (fun wq => (rest_ok _ _ _ (by omega) (by omega)).mono fun _ _ ⟨ha, hb⟩ => ⟨ha, hb.symm⟩)
  have hk : restF at' (encL l).length < (encL l).length := restF_lt (by omega)
  have HGk : Hid (∀ (k : Nat) (wq : World), Calls Try.prog 11 #[.string ((strN (encL l)).extract k (strN (encL l)).size)] wq fun e w' => e = .returned (.tuple #[.int .i64 (getC ((encL l).drop k)), .int .i64 (getW ((encL l).drop k)), .int .i64 (getE ((encL l).drop k))]) ∧ wq = w') :=
    Lib.hid fun k wq => by have h := get_ok ((strN (encL l)).extract k (strN (encL l)).size) wq; rw [nums_from, e1] at h; exact h
  have hemp : (strN (encL l)).toList.isEmpty = false := empty_nums (by rw [e1]; omega)
  have HSy := Lib.hid (fun k => sync_at (k := k) hs)
  have HP : Hid (∀ j, j < n → ∃ t z, z ≤ 4 ∧ t.size = z ∧ posF l (j + 1) = posF l j + z ∧ ∀ wq, Calls Try.prog 10 #[.int .i64 (gI l j)] wq fun e w' => e = .returned (.tuple #[.string t, .int .i64 0]) ∧ wq = w') := Lib.hid fun j hj => by
    have hc := hs _ (gI_mem (l := l) (k := j) (by omega))
    refine ⟨strN (encN (gI l j).toNat), (encN (gI l j).toNat).length, encN_len_le _, strN_size _, posF_succ (by omega), fun wq => ?_⟩
    have := put_yes (scal_nat hc) wq
    rwa [Int.toNat_of_nonneg hc.1] at this
  have HPL : Hid (∀ j, posF l j ≤ (encL l).length) := Lib.hid (posF_le l)
  rw [hsz] at HGk
  rw [hll] at hle
  clear e1 hge hs hll
  generalize hs0 : strN (encL l) = s at *
  clear hs0
  obtain ⟨pw, hpw⟩ : ∃ pw, (encL l).length = pw := ⟨_, rfl⟩
  rw [hpw] at HX HGk HSy HPL hsz hle hk
  have Hpw := Lib.hid hpw
  clear hpw
  generalize restF at' pw = k at *
  go_wp2_with fail
  refine (HX.out _).mono ?_
  rintro e w' ⟨rfl, rfl⟩
  clear HX
  go_wp2_with fail
  go_loopw [12, 50] (fun pv iv wr => ∃ j : Nat, j ≤ n ∧ pv = .int .i64 (posF l j) ∧ iv = .int .i64 j ∧ MapI wr w1.heap.size j (inF (stS l j)) ∧ Ext w1 wr) (fun _ iv _ => n - (intOf iv).toNat)
  case atStart => exact ⟨0, by omega, by rw [posF_zero]; rfl, rfl, (MapI.made w1).congr inF_nil, Ext.alloc _ _⟩
  case round =>
    obtain ⟨j, hj, rfl, rfl, hmap, he2⟩ := hrel
    by_cases hlt : j < n
    · obtain ⟨ad, rfl, hc⟩ := HI.out.at_ hlt
      have d1 := (he1.trans he2).cell (hc j hlt)
      obtain ⟨t, z, hz4, htz, hps, hP⟩ := HP.out j hlt
      have hpl := HPL.out j
      have hjm : j < maxLen := by unfold maxLen; omega
      have hwk : (Lit.int .i64 (posF l j : Nat)).wf = true := wf_i64 (by omega) (by omega)
      have Hps := Lib.hid hps
      have HPc := Lib.hid hP
      clear hps hP hc
      have Hst : Hid (posF l j :: stS l j = stS l (j + 1)) := Lib.hid rfl
      generalize posF l j = p at *
      go_wp2_with fail
      refine (HPc.out _).mono ?_
      rintro e w' ⟨rfl, rfl⟩
      go_wp2_with (at_mapUpdate; refine wpList_mapPut rfl (.tmp 59) (.tmp 60) (.const (.int .i64 1)) 31 rfl Try.underlying31 w1 w1.heap.size j _ rfl hmap hjm p 1 rfl rfl hwk (by decide) he2 (Nat.le_refl _) ?_)
      intro w6 hmap6 _ he6
      have hmap7 := hmap6.congr (inF_cons (stS l j) p)
      rw [Hst.out] at hmap7
      clear hmap hmap6 he2 d1 HPc Hst
      go_wp2_with fail
      go_roundw
      case rel => exact ⟨j + 1, by omega, by rw [Hps.out]; go_num, by go_num, hmap7, he6⟩
      case measure => simp [intOf]; omega
    · obtain rfl : j = n := by omega
      obtain ⟨y1, dd, hd3, y2⟩ := HSy.out k hk
      have hll := hlen.out
      have hiff : (k ∈ stS l j ↔ getE ((encL l).drop k) = 0) := by rw [mem_stS, y1, hll]
      have hat : k + dd = pw ∨ k + dd ∈ stS l j := by
        rcases y2 with h | ⟨i, h1, h2⟩
        · exact .inl h
        · exact .inr (mem_stS.2 ⟨i, by omega, h2⟩)
      have HGc := Lib.hid (HGk.out k)
      have Hat := Lib.hid hat
      have Hget : Hid (∀ q : Nat, q ≤ 100000000000000 → (Instr.lookup 31 (.map (some w1.heap.size)) (.int .i64 q) false).run Try.prog wr = .ok (.int .i64 (if q ∈ stS l j then 1 else 0)) wr) := Lib.hid fun q hq => by
        have := hmap.get Try.underlying31 (k := (q : Int)) (wf_i64 (by omega) (by omega))
        rwa [inF_nat] at this
      have g0 := Hget.out k (by omega)
      have hend := he1.trans he2
      clear y1 y2 hat hmap HP HPL HSy HGk hmm he1 he2 hll
      have hrk : k ≤ pw := by omega
      by_cases hst : k ∈ stS l j
      all_goals
        have hgE : Hid (getE ((encL l).drop k) = 0 ↔ k ∈ stS l j) := Lib.hid hiff.symm
        first
          | (rw [if_pos hst] at g0)
          | (rw [if_neg hst] at g0)
        first
          | (have hz : getE ((encL l).drop k) = 0 := hiff.1 hst
             rw [hz] at HGc
             clear hz)
          | (have hz : ((getE ((encL l).drop k) : Int) == 0) = false := by
               have : getE ((encL l).drop k) ≠ 0 := fun h => hst (hiff.2 h)
               simp; omega)
        have Hst := Lib.hid hst
        clear hst hiff hgE
        generalize getC ((encL l).drop k) = gc at *
        generalize getW ((encL l).drop k) = gw at *
        try generalize getE ((encL l).drop k) = ge at *
        go_wp2_with fail
        refine (HGc.out _).mono ?_
        rintro e w' ⟨rfl, rfl⟩
        clear HGc
        go_wp2_with fail
        clear g0
        try clear hz
        go_loopw [81] (fun mv w5 => ∃ m : Nat, mv = .int .i64 m ∧ m ≤ dd ∧ w5 = wr) (fun mv _ => dd - (intOf mv).toNat)
        case atStart => exact ⟨0, rfl, by omega, rfl⟩
        case round =>
          obtain ⟨m, rfl, hm, rfl⟩ := hrel
          have gm := Hget.out (k + m) (by omega)
          have hm4 : m < 4 := by omega
          by_cases h1 : k + m = pw
          · have h1i : (((k : Int) + (m : Int)) == (pw : Int)) = true := by simp; omega
            clear gm
            go_wp2_with fail
            go_ret
            exact ⟨rfl, hend⟩
          · have h1i : (((k : Int) + (m : Int)) == (pw : Int)) = false := by simp; omega
            by_cases h2 : k + m ∈ stS l j
            · rw [if_pos h2, Int.natCast_add] at gm
              clear h2
              go_wp2_with fail
              go_ret
              exact ⟨rfl, hend⟩
            · rw [if_neg h2, Int.natCast_add] at gm
              have hmd : m < dd := by
                rcases Nat.lt_or_ge m dd with h | h
                · exact h
                · exfalso
                  obtain rfl : m = dd := by omega
                  rcases Hat.out with h3 | h3
                  · exact h1 h3
                  · exact h2 h3
              clear h2
              go_wp2_with fail
              go_roundw
              case rel => exact ⟨m + 1, by go_num, by omega, trivial⟩
              case measure => simp [intOf]; omega
end Go.Proofs.Ytbgegkagnahlpaa
