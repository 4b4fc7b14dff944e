/-
  slices.Repeat of a list that is not empty, as often as is asked for: the walk.
-/
import Derived.Test.YtmhgndjmcignjaaZCut
import Derived.Test.YtmhgndjmcignjaaZJ1
import Derived.Laws.CopyOwn
import Derived.Laws.Bits64b
import Derived.Deep.RegionLaw
import Derived.IntWalk

namespace Go.Proofs.Ytmhgndjmcignjaa
open Go.RowKit
set_option linter.unusedVariables false
set_option linter.unusedSimpArgs false

theorem maskRP (a : Nat) (ha : a < 4294967296) : bits .and .u64 (a : Int) 4294967295 = (a : Int) := by
  have h := bits_and_u64_nat a 4294967295 (by omega) (by omega)
  have e : a &&& 4294967295 = a % 4294967296 := Nat.and_two_pow_sub_one_eq_mod a 32
  rw [e, Nat.mod_eq_of_lt ha] at h
  exact h
theorem wrapRP (a : Nat) (ha : a < 4294967296) : IntKind.u64.wrap (a : Int) = (a : Int) := by rw [IntKind.wrap_u64]; omega
theorem divRP (a : Nat) (ha : a < 4294967296) : (a : Int) / 4294967296 = 0 := by omega
set_option maxRecDepth 20000 in
set_option maxHeartbeats 1000000 in
theorem mul64_two (a b p : Nat) (ha : a < 4294967296) (hb : b < 4294967296) (hp : a * b = p) (hq : p < 4294967296) (w : World) :
    Calls Try.prog 75 #[.int .u64 a, .int .u64 b] w fun e w' => e = .returned (.tuple #[.int .u64 0, .int .u64 p]) ∧ w' = w := by
  have ha' := Lib.hid ha
  have hb' := Lib.hid hb
  have hq' := Lib.hid hq
  have hp' : Hid ((a : Int) * (b : Int) = (p : Int)) := Lib.hid (by rw [← hp]; exact (Int.natCast_mul a b).symm)
  clear ha hb hq hp
  go_enter Try.func75, Try.ntmps75
  go_wp2
  simp only [maskRP a ha'.out, maskRP b hb'.out, wrapRP a ha'.out, wrapRP b hb'.out, divRP a ha'.out, divRP b hb'.out, hp'.out, wrapRP p hq'.out, divRP p hq'.out, maskRP p hq'.out, Int.zero_mul, Int.mul_zero, Int.zero_add, Int.add_zero]
  go_ret2
  exact ⟨rfl, rfl⟩
set_option maxRecDepth 20000 in
set_option maxHeartbeats 1000000 in
theorem mul_two (a b p : Nat) (ha : a < 4294967296) (hb : b < 4294967296) (hp : a * b = p) (hq : p < 4294967296) (w : World) :
    Calls Try.prog 68 #[.int .u64 a, .int .u64 b] w fun e w' => e = .returned (.tuple #[.int .u64 0, .int .u64 p]) ∧ w' = w := by
  have HC := Lib.hid (mul64_two a b p ha hb hp hq w)
  clear hp ha hb hq
  go_enter Try.func68, Try.ntmps68
  go_wp2_with fail
  refine HC.out.mono ?_
  rintro e w' ⟨rfl, rfl⟩
  go_wp2_with fail
  go_ret2
  exact ⟨rfl, rfl⟩

/-- A list so many times. -/
def repL (n : Nat) (x : List Int) : List Int := (List.replicate n x).flatten
theorem repL_add (a b : Nat) (x : List Int) : repL (a + b) x = repL a x ++ repL b x := by
  unfold repL; rw [← List.replicate_append_replicate, List.flatten_append]
theorem repL_len (n : Nat) (x : List Int) : (repL n x).length = n * x.length := by
  unfold repL; rw [List.length_flatten]; simp
theorem repL_one (x : List Int) : repL 1 x = x := by simp [repL]
theorem repL_step {n j q : Nat} {x : List Int} (hj : j ≤ n) (hq : q ≤ (n - j) * x.length) : (repL n x).take (j * x.length + q) = (repL n x).take (j * x.length) ++ (repL n x).take q := by
  have h1 : repL n x = repL j x ++ repL (n - j) x := by rw [← repL_add]; congr 1; omega
  have h2 : repL n x = repL (n - j) x ++ repL j x := by rw [← repL_add]; congr 1; omega
  have h3 : (repL n x).take q = (repL (n - j) x).take q := by rw [h2, List.take_append_of_le_length (by rw [repL_len]; exact hq)]
  rw [h3, h1, List.take_append, repL_len]
  rw [List.take_of_length_le (by rw [repL_len]; omega), List.take_append_of_le_length (by rw [repL_len]; exact Nat.le_refl _), List.take_of_length_le (l := repL j x) (by rw [repL_len]; exact Nat.le_refl _)]
  congr 2
  omega
theorem repL_first {n : Nat} {x : List Int} (hn : 1 ≤ n) : (repL n x).take x.length = x := by
  obtain ⟨m, rfl⟩ : ∃ m, n = 1 + m := ⟨n - 1, by omega⟩
  rw [repL_add, repL_one, List.take_append_of_le_length (Nat.le_refl _), List.take_of_length_le (Nat.le_refl _)]

theorem repL_splice {R : List Int} {k m n : Nat} (hR : R.length = n) (h : k + m ≤ n) (hs : R.take (k + m) = R.take k ++ R.take m) : splice ((R.take k ++ List.replicate (n - k) 0).map (Value.int .i64)) k ((R.take m).map (Value.int .i64)) = (R.take (k + m) ++ List.replicate (n - (k + m)) 0).map (Value.int .i64) := by
  have hk : (R.take k).length = k := by simp; omega
  have hm : (R.take m).length = m := by simp; omega
  unfold splice
  rw [← List.map_take, ← List.map_drop, ← List.map_append, ← List.map_append]
  congr 1
  rw [List.take_append_of_le_length (by omega), List.take_of_length_le (by omega), List.length_map, hm, List.drop_append, hk, List.drop_of_length_le (by omega), List.nil_append, List.drop_replicate, ← List.append_assoc, ← hs]
  congr 2
  omega
/-- The block that Repeat fills. -/
def ReplAt (w : World) (g : Nat) (R : List Int) (k n : Nat) : Prop := Blk w g 3 ((R.take k ++ List.replicate (n - k) 0).map (Value.int .i64)).toArray
theorem ReplAt.own {w : World} {g n base : Nat} {R : List Int} (h : ReplAt w g R n n) (hR : R.length = n) (hb : base ≤ g) (hn : n ≤ 1000000) : OwnI w base (some ⟨g, 0, none⟩) n n R := by
  have e : R.take n = R := List.take_of_length_le (by omega)
  unfold ReplAt at h
  rw [e, Nat.sub_self] at h
  refine ⟨by simp [hR], .inr ⟨g, n, _, rfl, hb, h, Nat.le_refl _, by unfold maxLen; omega, by simp [hR], ?_⟩⟩
  rw [Nat.mul_one]
  simp only [List.replicate_zero, List.append_nil, List.size_toArray, List.length_map, hR]
  exact List.take_of_length_le (by simp [hR])
set_option maxRecDepth 20000 in
set_option maxHeartbeats 4000000 in
theorem repl_ok {A : Option Addr} {c n m N : Nat} {x : List Int} {w : World} (hl : Ints w A m c x) (hm : 1 ≤ m) (hn : 1 ≤ n) (hN : m * n = N) (hNm : N ≤ 1000000) :
    Calls Try.prog 55 #[.slice A m c, .int .i64 n] w fun e w' => (∃ g, e = .returned (.slice (some ⟨g, 0, none⟩) N N) ∧ OwnI w' w.heap.size (some ⟨g, 0, none⟩) N N (repL n x)) ∧ Ext w w' := by
  obtain ⟨i0, hi, hz0, hz1, hz2⟩ := info_parts info_int
  have hxl := hl.len
  have hmN : m ≤ N := by rw [← hN]; exact Nat.le_mul_of_pos_right m hn
  have hnN : n ≤ N := by rw [← hN]; exact Nat.le_mul_of_pos_left n hm
  have HM := Lib.hid (mul_two m n N (by omega) (by omega) hN (by omega) w)
  have HR : Hid ((repL n x).length = N) := Lib.hid (by rw [repL_len, hxl, Nat.mul_comm]; exact hN)
  have HF : Hid ((repL n x).take m = x) := Lib.hid (by rw [← hxl]; exact repL_first hn)
  have HS : Hid (∀ j q, j ≤ n → q ≤ (n - j) * m → (repL n x).take (j * m + q) = (repL n x).take (j * m) ++ (repL n x).take q) := Lib.hid (by rw [← hxl]; exact fun j q h1 h2 => repL_step h1 h2)
  obtain ⟨R, hR⟩ : ∃ R, repL n x = R := ⟨_, rfl⟩
  rw [hR] at HR HF HS
  rw [hR]
  clear hR
  obtain ⟨ad, rfl, hc0⟩ := Rd.at_ hl (k := 0) (by omega)
  have HC0 := Lib.hid hc0
  have HNN := Lib.hid hN
  have Hxl := Lib.hid hxl
  have hmk : (Instr.makeSlice 22 (.int .i64 (N : Int)) (.int .i64 (N : Int))).run Try.prog w =
      .ok (.slice (some ⟨w.heap.size, 0, none⟩) N N) (w.alloc (.cells (madeCells #[.int .i64 0] N) 3)) := by
    have h := run_make (P := Try.prog) w 22 3 i0 (.int .i64 0) Try.underlying22 hi hz0 .i64 .i64 (N : Int) (N : Int) (by omega) (by omega) (by rw [hz2]; omega) (by omega)
    simpa [hz1, Value.cells] using h
  have hq2 : ((N : Int) ≤ 9223372036854775807) := by omega
  clear hl hc0 hi hz0 hz1 hz2 hN hxl
  go_enter Try.func55, Try.ntmps55
  go_wp2_with fail
  refine HM.out.mono ?_
  rintro e w' ⟨rfl, rfl⟩
  have hb : ReplAt (w'.alloc (.cells (madeCells #[.int .i64 0] N) 3)) w'.heap.size R 0 N := by
    have e : madeCells #[Value.int .i64 0] N = ((R.take 0 ++ List.replicate (N - 0) 0).map (Value.int .i64)).toArray := by
      rw [show #[Value.int .i64 0] = (Value.int .i64 0).cells from rfl, made_ints]; simp
    have := Blk.new w' 3 (madeCells #[.int .i64 0] N)
    unfold ReplAt
    rw [← e]
    exact this
  have hx1 := Ext.alloc w' (.cells (madeCells #[.int .i64 0] N) 3)
  have HSR : Hid (∀ (j : Nat) (v : Value), ((R.take m).map (Value.int .i64))[j]? = some v → (w'.alloc (.cells (madeCells #[.int .i64 0] N) 3)).cell? (ad.add j) = some v) := Lib.hid fun j v hj => by
    rw [HF.out] at hj
    exact hx1.cell (HC0.out j v hj)
  have HON : Hid (∀ v ∈ ((R.take m).map (Value.int .i64)), v.oneCell' = true) := Lib.hid (by
    intro v hv
    obtain ⟨_, _, rfl⟩ := List.mem_map.1 hv
    rfl)
  have hcs : ((R.take m).map (Value.int .i64)).length = m := by simp; have := HR.out; omega
  have HFI : Hid (0 + ((R.take m).map (Value.int .i64)).length ≤ ((R.take 0 ++ List.replicate (N - 0) 0).map (Value.int .i64)).length) := Lib.hid (by rw [hcs]; simp; omega)
  have HMN : Hid (((R.take m).map (Value.int .i64)).length = Nat.min m N) := Lib.hid (by rw [hcs]; exact (Nat.min_eq_left hmN).symm)
  have HB := Lib.hid hb
  have HX := Lib.hid hx1
  have hmin : min m R.length = m := by rw [HR.out]; exact Nat.min_eq_left hmN
  clear HM hb hx1 hcs HC0
  go_wp2_with (refine wpList_copy_splice (o := ⟨some 33, _, _, _, _, _⟩) rfl (.tmp 31) (.tmp 32) 22 22 rfl 3 Try.underlying22 (by kernel_rfl) (some ⟨w'.heap.size, 0, none⟩) (some ad) N N m c rfl rfl w'.heap.size 0 _ 3 HB.out ((R.take m).map (Value.int .i64)) HMN.out (fun hp => ⟨rfl, ad, rfl, HSR.out⟩) HFI.out HON.out w'.heap.size w' HX.out (Nat.le_refl _) ?_)
  intro w1 hb1 hx1
  have hb2 : Hid (ReplAt w1 w'.heap.size R m N) := Lib.hid (by
    have := hb1.out
    have e := repL_splice (R := R) (k := 0) (m := m) (n := N) HR.out (by omega) (by simp)
    rw [Nat.zero_add] at e
    unfold ReplAt Blk
    rw [← e]
    simpa using this)
  have hx2 : Hid (Ext w' w1) := Lib.hid hx1
  clear hb1 hx1 HX HB HSR HON HFI HMN
  try rw [hmin]
  clear hmin
  go_wp2_with fail
  go_loopw [8] (fun v wr => ∃ k : Nat, k ≤ N ∧ v = .int .i64 k ∧ Hid (∃ j, 1 ≤ j ∧ j ≤ n ∧ k = j * m) ∧ Hid (ReplAt wr w'.heap.size R k N) ∧ Hid (Ext w' wr)) (fun v _ => N - (intOf v).toNat)
  case atStart => exact ⟨m, hmN, rfl, Lib.hid ⟨1, by omega, hn, by omega⟩, hb2, hx2⟩
  case round =>
    clear hb2 hx2
    obtain ⟨k, hk, rfl, HP, HB, HX⟩ := hrel
    by_cases hlt : k < N
    · obtain ⟨q, hq⟩ : ∃ q, q = min k (N - k) := ⟨_, rfl⟩
      have hk1 : 0 < k := by
        obtain ⟨j, h1, _, h2⟩ := HP.out
        rw [h2]; exact Nat.mul_pos h1 hm
      have hq1 : 0 < q := by omega
      have hq2 : k + q ≤ N := by omega
      have HQ := Lib.hid hq
      have HST : Hid (R.take (k + q) = R.take k ++ R.take q) := Lib.hid (by
        obtain ⟨j, h1, h2, h3⟩ := HP.out
        rw [h3]
        refine HS.out j q h2 ?_
        have : (n - j) * m = N - k := by rw [Nat.sub_mul, h3, Nat.mul_comm n m, HNN.out]
        omega)
      have HPn : Hid (∃ j, 1 ≤ j ∧ j ≤ n ∧ k + q = j * m) := Lib.hid (by
        obtain ⟨j, h1, h2, h3⟩ := HP.out
        have h4 : (n - j) * m = N - k := by rw [Nat.sub_mul, h3, Nat.mul_comm n m, HNN.out]
        rcases Nat.le_total j (n - j) with h5 | h5
        · have : k ≤ N - k := by rw [← h4, h3]; exact Nat.mul_le_mul_right m h5
          refine ⟨j + j, by omega, by omega, ?_⟩
          rw [Nat.add_mul, ← h3]
          omega
        · have : N - k ≤ k := by rw [← h4, h3]; exact Nat.mul_le_mul_right m h5
          refine ⟨n, by omega, Nat.le_refl _, ?_⟩
          rw [Nat.mul_comm n m, HNN.out]
          omega)
      have hcs : ((R.take q).map (Value.int .i64)).length = q := by simp; have := HR.out; omega
      have HCS := Lib.hid hcs
      have hne : ¬ N = k := by omega
      have hw1 : IntKind.i64.wrap ((k : Int) + (q : Int)) = (k : Int) + (q : Int) := IntWalk.i64_in _ (by omega)
      clear hq hcs
      have hxd := HX.out.to_drew
      have hbd : Hid (wr.drew.heap[w'.heap.size]? = some (.cells ((R.take k ++ List.replicate (N - k) 0).map (Value.int .i64)).toArray 3 (0, 0))) := HB
      have HCE : Hid (∀ (j : Nat) (v : Value), ((R.take q).map (Value.int .i64))[j]? = some v → wr.drew.cell? ((⟨w'.heap.size, 0, none⟩ : Addr).add j) = some v) := Lib.hid fun j v hj => by
        have h1 := (List.getElem?_eq_some_iff.1 hj).1
        rw [HCS.out] at h1
        have h2 : q ≤ k := by have := HQ.out; omega
        have e1 : (⟨w'.heap.size, 0, none⟩ : Addr).add j = ⟨w'.heap.size, j, none⟩ := by simp [Addr.add_lit]
        rw [e1]
        have h4 : Blk wr.drew w'.heap.size 3 _ := hbd.out
        rw [h4.cell j, ← hj]
        simp only [List.getElem?_toArray, List.map_append]
        rw [List.getElem?_append_left (by simp; have := HR.out; omega), List.getElem?_map, List.getElem?_map, List.getElem?_take, if_pos (by omega), List.getElem?_take, if_pos h1]
      have HON : Hid (∀ v ∈ ((R.take q).map (Value.int .i64)), v.oneCell' = true) := Lib.hid (by
        intro v hv
        obtain ⟨_, _, rfl⟩ := List.mem_map.1 hv
        rfl)
      have HFI : Hid (k + ((R.take q).map (Value.int .i64)).length ≤ ((R.take k ++ List.replicate (N - k) 0).map (Value.int .i64)).length) := Lib.hid (by rw [HCS.out]; simp; have := HR.out; omega)
      have HMN : Hid (((R.take q).map (Value.int .i64)).length = Nat.min k (N - k)) := Lib.hid (by rw [HCS.out]; exact HQ.out)
      have hcut := run_tailA (some ⟨w'.heap.size, 0, none⟩) N N k hk
      have hmq : min q R.length = q := by rw [HR.out]; exact Nat.min_eq_left (by omega)
      have HDP : Hid (cutA (some ⟨w'.heap.size, 0, none⟩) N k = some ⟨w'.heap.size, k, none⟩) := Lib.hid (by unfold cutA; rw [if_neg hne]; simp [Addr.add_lit])
      have hall := And.intro HDP (And.intro hcut HMN)
      clear HDP hcut HMN
      revert hall
      generalize cutA (some ⟨w'.heap.size, 0, none⟩) N k = D
      generalize hd : N - k = d at *
      have HD := Lib.hid hd
      clear hd
      rintro ⟨HDP, hcut, HMN⟩
      go_wp2_with fail
      go_region_law (first
        | (refine step_copy_splice rfl (.tmp 41) (.tmp 44) 22 22 rfl 3 Try.underlying22 (by kernel_rfl) D (some ⟨w'.heap.size, 0, none⟩) d d k N (by go_simp) (by go_simp) w'.heap.size k _ 3 hbd.out ((R.take q).map (Value.int .i64)) HMN.out (fun hp => ⟨HDP.out, _, rfl, HCE.out⟩) HFI.out HON.out w'.heap.size w' hxd (Nat.le_refl _) ?_
           intro w2 hb2 hx2
           skip))
      all_goals
        have hb3 : Hid (ReplAt w2 w'.heap.size R (k + q) N) := Lib.hid (by
          have := hb2.out
          have e := repL_splice (R := R) (k := k) (m := q) (n := N) HR.out (by omega) HST.out
          unfold ReplAt Blk
          rw [← e, HD.out]
          simpa using this)
        have hx3 : Hid (Ext w' w2) := Lib.hid hx2
        clear hb2 hx2 hbd hxd HB HX HP
        go_simp
        try simp only [hmq]
        clear hmq
        go_wp2_with fail
        go_roundw
        case rel => exact ⟨k + q, hq2, by go_num, HPn, hb3, hx3⟩
        case measure => simp [intOf]; omega
    · obtain rfl : k = N := by omega
      go_wp2_with fail
      go_ret
      exact ⟨⟨_, rfl, HB.out.own HR.out (Nat.le_refl _) hNm⟩, HX.out⟩
end Go.Proofs.Ytmhgndjmcignjaa
