/-
  slices.Repeat of a list of one number: the walk; math/bits.Mul at one.
-/
import Derived.Test.YthphlghblmindaaCut
import Derived.Test.YthphlghblmindaaLibA
import Derived.Laws.CopyOwn
import Derived.Laws.Bits64b
import Derived.Deep.RegionLaw
import Derived.IntWalk
namespace Go.Proofs.Ythphlghblmindaa
open Go.RowKit
set_option linter.unusedVariables false
set_option linter.unusedSimpArgs false

theorem mask1 : bits .and .u64 1 4294967295 = 1 := by decide
theorem maskRN (a : Nat) (ha : a < 4294967296) : bits .and .u64 (a : Int) 4294967295 = (a : Int) := by
  have h := bits_and_u64_nat a 4294967295 (by omega) (by omega)
  have e : a &&& 4294967295 = a % 4294967296 := Nat.and_two_pow_sub_one_eq_mod a 32
  rw [e, Nat.mod_eq_of_lt ha] at h
  exact h
theorem wrapRN (a : Nat) (ha : a < 4294967296) : IntKind.u64.wrap (a : Int) = (a : Int) := by rw [IntKind.wrap_u64]; omega
theorem divRN (a : Nat) (ha : a < 4294967296) : (a : Int) / 4294967296 = 0 := by omega
set_option maxRecDepth 20000 in
set_option maxHeartbeats 1000000 in
theorem mul64_one (n : Nat) (hn : n < 4294967296) (w : World) :
    Calls Try.prog 69 #[.int .u64 1, .int .u64 n] w fun e w' => e = .returned (.tuple #[.int .u64 0, .int .u64 n]) ∧ w' = w := by
  have hn' := Lib.hid hn
  go_enter Try.func69, Try.ntmps69
  go_wp2
  simp only [mask1, maskRN n hn'.out, wrapRN n hn'.out, divRN n hn'.out, Int.one_mul, Int.zero_mul, Int.zero_add, Int.add_zero, Int.mul_zero]
  go_ret2
  exact ⟨rfl, rfl⟩
set_option maxRecDepth 20000 in
set_option maxHeartbeats 1000000 in
theorem mul_one (n : Nat) (hn : n < 4294967296) (w : World) :
    Calls Try.prog 60 #[.int .u64 1, .int .u64 n] w fun e w' => e = .returned (.tuple #[.int .u64 0, .int .u64 n]) ∧ w' = w := by
  have HC := Lib.hid (mul64_one n hn w)
  go_enter Try.func60, Try.ntmps60
  go_wp2_with fail
  refine HC.out.mono ?_
  rintro e w' ⟨rfl, rfl⟩
  go_wp2_with fail
  go_ret2
  exact ⟨rfl, rfl⟩

theorem rep_splice (x : Int) {k m n : Nat} (h : k + m ≤ n) : splice ((List.replicate k x ++ List.replicate (n - k) 0).map (Value.int .i64)) k ((List.replicate m x).map (Value.int .i64)) = (List.replicate (k + m) x ++ List.replicate (n - (k + m)) 0).map (Value.int .i64) := by
  unfold splice
  rw [← List.map_take, ← List.map_drop, ← List.map_append, ← List.map_append]
  congr 1
  rw [List.take_append_of_le_length (by simp), List.take_of_length_le (by simp), List.length_map, List.length_replicate, List.drop_append, List.length_replicate, List.drop_of_length_le (by simp), List.nil_append, List.drop_replicate, ← List.append_assoc, List.replicate_append_replicate]
  congr 2
  omega
/-- The block that Repeat fills. -/
def RepAt (w : World) (g : Nat) (x : Int) (k n : Nat) : Prop := Blk w g 3 ((List.replicate k x ++ List.replicate (n - k) 0).map (Value.int .i64)).toArray
theorem RepAt.own {w : World} {g n base : Nat} {x : Int} (h : RepAt w g x n n) (hb : base ≤ g) (hn : n ≤ 1000000) : OwnI w base (some ⟨g, 0, none⟩) n n (List.replicate n x) := by
  refine ⟨by simp, .inr ⟨g, n, _, rfl, hb, h, Nat.le_refl _, by unfold maxLen; omega, by simp, ?_⟩⟩
  simp
set_option maxRecDepth 20000 in
set_option maxHeartbeats 4000000 in
theorem repeat_ok {A : Option Addr} {c n : Nat} {x : Int} {w : World} (hl : Ints w A 1 c [x]) (hn : n ≤ 1000000) :
    Calls Try.prog 36 #[.slice A 1 c, .int .i64 n] w fun e w' => (∃ g, e = .returned (.slice (some ⟨g, 0, none⟩) n n) ∧ OwnI w' w.heap.size (some ⟨g, 0, none⟩) n n (List.replicate n x)) ∧ Ext w w' := by
  obtain ⟨i0, hi, hz0, hz1, hz2⟩ := info_parts info_int
  have HM := Lib.hid (mul_one n (by omega) w)
  have HL := Lib.hid hl
  obtain ⟨ad, rfl, hc0⟩ := hl.at_ (k := 0) (by omega)
  have c0 := hc0 0 (by omega)
  rw [add_nought] at c0
  have hx0 : gI [x] 0 = x := rfl
  rw [hx0] at c0
  have hmk : (Instr.makeSlice 22 (.int .i64 (n : Int)) (.int .i64 (n : Int))).run Try.prog w =
      .ok (.slice (some ⟨w.heap.size, 0, none⟩) n n) (w.alloc (.cells (madeCells #[.int .i64 0] n) 3)) := by
    have h := run_make (P := Try.prog) w 22 3 i0 (.int .i64 0) Try.underlying22 hi hz0 .i64 .i64 (n : Int) (n : Int) (by omega) (by omega) (by rw [hz2]; omega) (by omega)
    simpa [hz1, Value.cells] using h
  have hq2 : ((n : Int) ≤ 9223372036854775807) := by omega
  clear hl hc0 hx0 hi hz0 hz1 hz2
  go_enter Try.func36, Try.ntmps36
  go_wp2_with fail
  refine HM.out.mono ?_
  rintro e w' ⟨rfl, rfl⟩
  have hb : RepAt (w'.alloc (.cells (madeCells #[.int .i64 0] n) 3)) w'.heap.size x 0 n := by
    have e : madeCells #[Value.int .i64 0] n = ((List.replicate 0 x ++ List.replicate (n - 0) 0).map (Value.int .i64)).toArray := by
      rw [show #[Value.int .i64 0] = (Value.int .i64 0).cells from rfl, made_ints]; simp
    have := Blk.new w' 3 (madeCells #[.int .i64 0] n)
    unfold RepAt
    rw [← e]
    exact this
  have hx1 := Ext.alloc w' (.cells (madeCells #[.int .i64 0] n) 3)
  have k0 := hx1.cell c0
  obtain ⟨m, hm⟩ : ∃ m, m = min 1 n := ⟨_, rfl⟩
  have hmn : m ≤ n := by omega
  have hcs : ((List.replicate m x).map (Value.int .i64)).length = m := by simp
  have HCS := Lib.hid hcs
  have HMN := Lib.hid hm
  have HB := Lib.hid hb
  have HX := Lib.hid hx1
  have K0 := Lib.hid k0
  clear HM c0 hb hx1 k0 hm hcs
  have hsrc : ∀ (j : Nat) (v : Value), ((List.replicate m x).map (Value.int .i64))[j]? = some v → (w'.alloc (.cells (madeCells #[.int .i64 0] n) 3)).cell? (ad.add j) = some v := fun j v hj => by
    have h1 := (List.getElem?_eq_some_iff.1 hj).1
    rw [HCS.out] at h1
    have h2 : m ≤ 1 := by have := HMN.out; omega
    obtain rfl : j = 0 := by omega
    rw [add_nought]
    have h3 : v = .int .i64 x := by
      have := (List.getElem?_eq_some_iff.1 hj).2
      simpa using this.symm
    rw [h3]; exact K0.out
  have hone : ∀ v ∈ ((List.replicate m x).map (Value.int .i64)), v.oneCell' = true := by
    intro v hv
    obtain ⟨_, _, rfl⟩ := List.mem_map.1 hv
    rfl
  have hfit : 0 + ((List.replicate m x).map (Value.int .i64)).length ≤ ((List.replicate 0 x ++ List.replicate (n - 0) 0).map (Value.int .i64)).length := by rw [HCS.out]; simp; omega
  have hnn : ((List.replicate m x).map (Value.int .i64)).length = Nat.min 1 n := by rw [HCS.out]; exact HMN.out
  have HSR := Lib.hid hsrc
  have HON := Lib.hid hone
  have HFI := Lib.hid hfit
  have HNN := Lib.hid hnn
  clear hsrc hone hfit hnn
  go_wp2_with (refine wpList_copy_splice (o := ⟨some 33, _, _, _, _, _⟩) rfl (.tmp 31) (.tmp 32) 22 22 rfl 3 Try.underlying22 (by kernel_rfl) (some ⟨w'.heap.size, 0, none⟩) (some ad) n n 1 c rfl rfl w'.heap.size 0 _ 3 HB.out ((List.replicate m x).map (Value.int .i64)) HNN.out (fun hp => ⟨rfl, ad, rfl, HSR.out⟩) HFI.out HON.out w'.heap.size w' HX.out (Nat.le_refl _) ?_)
  intro w1 hb1 hx1
  have hb2 : Hid (RepAt w1 w'.heap.size x m n) := Lib.hid (by
    have := hb1.out
    have e := rep_splice x (k := 0) (m := m) (n := n) (by omega)
    rw [Nat.zero_add] at e
    unfold RepAt Blk
    rw [← e]
    simpa using this)
  have hx2 : Hid (Ext w' w1) := Lib.hid hx1
  clear hb1 hx1 HX K0 HB HSR HON HFI HNN
  go_wp2_with fail
  go_loopw [8] (fun v wr => ∃ k : Nat, k ≤ n ∧ v = .int .i64 k ∧ Hid (n = 0 ∨ 0 < k) ∧ Hid (RepAt wr w'.heap.size x k n) ∧ Hid (Ext w' wr)) (fun v _ => n - (intOf v).toNat)
  case atStart => exact ⟨m, hmn, rfl, Lib.hid (by have := HMN.out; omega), hb2, hx2⟩
  case round =>
    clear hb2 hx2 HMN HCS
    obtain ⟨k, hk, rfl, HP, HB, HX⟩ := hrel
    by_cases hlt : k < n
    · obtain ⟨q, hq⟩ : ∃ q, q = min k (n - k) := ⟨_, rfl⟩
      have hq1 : 0 < q := by have := HP.out; omega
      have hq2 : k + q ≤ n := by omega
      have HQ := Lib.hid hq
      have hcs : ((List.replicate q x).map (Value.int .i64)).length = q := by simp
      have HCS := Lib.hid hcs
      have hne : ¬ n = k := by omega
      have hw1 : IntKind.i64.wrap ((k : Int) + (q : Int)) = (k : Int) + (q : Int) := IntWalk.i64_in _ (by omega)
      clear hq hcs
      have hxd := HX.out.to_drew
      have hbd : Hid (wr.drew.heap[w'.heap.size]? = some (.cells ((List.replicate k x ++ List.replicate (n - k) 0).map (Value.int .i64)).toArray 3 (0, 0))) := HB
      have hcells : ∀ (j : Nat) (v : Value), ((List.replicate q x).map (Value.int .i64))[j]? = some v → wr.drew.cell? ((⟨w'.heap.size, 0, none⟩ : Addr).add j) = some v := fun j v hj => by
        have h1 := (List.getElem?_eq_some_iff.1 hj).1
        rw [HCS.out] at h1
        have h2 : q ≤ k := by have := HQ.out; omega
        have e1 : (⟨w'.heap.size, 0, none⟩ : Addr).add j = ⟨w'.heap.size, j, none⟩ := by simp [Addr.add_lit]
        rw [e1]
        have h4 : Blk wr.drew w'.heap.size 3 _ := hbd.out
        rw [h4.cell j, ← hj]
        simp only [List.getElem?_toArray, List.map_append, List.map_replicate]
        rw [List.getElem?_append_left (by simp; omega), List.getElem?_replicate, List.getElem?_replicate, if_pos (by omega), if_pos h1]
      have hone : ∀ v ∈ ((List.replicate q x).map (Value.int .i64)), v.oneCell' = true := by
        intro v hv
        obtain ⟨_, _, rfl⟩ := List.mem_map.1 hv
        rfl
      have HCE := Lib.hid hcells
      have HON := Lib.hid hone
      have hfit : k + ((List.replicate q x).map (Value.int .i64)).length ≤ ((List.replicate k x ++ List.replicate (n - k) 0).map (Value.int .i64)).length := by rw [HCS.out]; simp; omega
      have HFI := Lib.hid hfit
      have hnn : ((List.replicate q x).map (Value.int .i64)).length = Nat.min k (n - k) := by rw [HCS.out]; exact HQ.out
      have HNN := Lib.hid hnn
      clear hcells hone hfit hnn
      have hcut := run_tailA (some ⟨w'.heap.size, 0, none⟩) n n k hk
      have HDP : Hid (cutA (some ⟨w'.heap.size, 0, none⟩) n k = some ⟨w'.heap.size, k, none⟩) := Lib.hid (by unfold cutA; rw [if_neg hne]; simp [Addr.add_lit])
      have hall := And.intro HDP (And.intro hcut HNN)
      clear HDP hcut HNN
      revert hall
      generalize cutA (some ⟨w'.heap.size, 0, none⟩) n k = D
      generalize n - k = d
      rintro ⟨HDP, hcut, HNN⟩
      go_wp2_with fail
      go_region_law (first
        | (refine step_copy_splice rfl (.tmp 41) (.tmp 44) 22 22 rfl 3 Try.underlying22 (by kernel_rfl) D (some ⟨w'.heap.size, 0, none⟩) d d k n (by go_simp) (by go_simp) w'.heap.size k _ 3 hbd.out ((List.replicate q x).map (Value.int .i64)) HNN.out (fun hp => ⟨HDP.out, _, rfl, HCE.out⟩) HFI.out HON.out w'.heap.size w' hxd (Nat.le_refl _) ?_
           intro w2 hb2 hx2
           skip))
      all_goals
        have hb3 : Hid (RepAt w2 w'.heap.size x (k + q) n) := Lib.hid (by
          have := hb2.out
          have e := rep_splice x (k := k) (m := q) (n := n) (by omega)
          unfold RepAt Blk
          rw [← e]
          simpa using this)
        have hx3 : Hid (Ext w' w2) := Lib.hid hx2
        clear hb2 hx2 hbd hxd HB HX HP
        go_simp
        go_wp2_with fail
        go_roundw
        case rel => exact ⟨k + q, hq2, by go_num, Lib.hid (.inr (by omega)), hb3, hx3⟩
        case measure => simp [intOf]; omega
    · obtain rfl : k = n := by omega
      go_wp2_with fail
      go_ret
      exact ⟨⟨_, rfl, HB.out.own (Nat.le_refl _) hn⟩, HX.out⟩
end Go.Proofs.Ythphlghblmindaa
