/-
  The walk of RopeSplits.
-/
import Derived.Test.YthljopjpjjaadaaRopeX
namespace Go.Proofs.Ythljopjpjjaadaa
open Go.RowKit
set_option linter.unusedVariables false
set_option linter.unusedSimpArgs false

theorem rop_sz {l : List Int} (h : l.length ≤ 4096) : (ropF l).sz = l.length ∧ (ropF l).toL = l := by
  unfold ropF
  rw [if_pos h]
  obtain ⟨_, h2⟩ := build_spec l.length l (Nat.le_refl _)
  have h3 : (Tr.build l).toL.length = (Tr.build l).sz := Tr.len _
  unfold Tr.build at *
  rw [h2] at h3
  exact ⟨h3.symm, h2⟩
/-- Two ropes in two variables made one after the other. -/
theorem RB.two {w : World} {u v : Option Addr} {s t : Tr} (h1 : TreeAt w u s) (h2 : TreeAt w v t) :
    RB ((w.alloc (.cells #[.pointer u] 26)).alloc (.cells #[.pointer v] 26)) w.heap.size u s ∧ RB ((w.alloc (.cells #[.pointer u] 26)).alloc (.cells #[.pointer v] 26)) (w.heap.size + 1) v t ∧
      Ext w ((w.alloc (.cells #[.pointer u] 26)).alloc (.cells #[.pointer v] 26)) := by
  have e1 := Ext.alloc w (.cells #[.pointer u] 26)
  have e2 := Ext.alloc (w.alloc (.cells #[.pointer u] 26)) (.cells #[.pointer v] 26)
  have r := RB.new (TreeAt.ext e1 h2)
  rw [show (w.alloc (.cells #[.pointer u] 26)).heap.size = w.heap.size + 1 by simp] at r
  exact ⟨(RB.new h1).ext e2, r, e1.trans e2⟩
theorem splits_at {l : List Int} {n i : Nat} : (n < i → gI (l.take i) n = gI l n) ∧ (i ≤ n → gI (l.drop i) (n - i) = gI l n) := by
  constructor
  · intro h; unfold gI; rw [List.getElem?_take]; simp [h]
  · intro h; unfold gI; rw [List.getElem?_drop, show i + (n - i) = n by omega]

set_option maxRecDepth 100000 in
set_option maxHeartbeats 40000000 in
theorem ropeSplits_walk {l : List Int} {k : Int} {A : Option Addr} {n d : Nat} {w : World} (hl : Ints w A n d l) :
    Calls Try.prog 6 #[.slice A n d, .int .i64 k] w fun e w' => e = .returned (.bool true) ∧ Ext w w' := by
  have hx1 := Ext.alloc w (.cells #[.int .i64 1, .int .i64 2] 3)
  have hI : Ints (w.alloc (.cells #[.int .i64 1, .int .i64 2] 3)) (some ⟨w.heap.size, 0, none⟩) 2 2 [1, 2] := Blk.ints (l := [1, 2]) (Blk.new _ _ _) rfl (by decide)
  have HR := Lib.hid (roped_any hI)
  have HL := Lib.hid hl
  have hlen := Lib.hid hl.len
  have hdm := hl.nmax
  have hnd := hl.ncap
  unfold maxLen at hdm
  clear hI hl
  go_enter Try.func6, Try.ntmps6
  go_wp2_with fail
  refine HR.out.mono ?_
  rintro e w1 ⟨v1, rfl, t1, he1⟩
  have s12 := (rop_sz (l := [1, 2]) (by decide)).1
  have b12 := (rop_bal [1, 2]).1
  have HSp := Lib.hid (splitR_ok (k := 1) t1 (by rw [s12]; decide) b12 (by rw [s12]; decide))
  have q1 : ((ropF [1, 2]).split 1).1.sz = 1 := by rw [(split_sz b12).1, s12]; rfl
  have q2 : ((ropF [1, 2]).split 1).2.sz = 1 := by rw [(split_sz b12).2, s12]; rfl
  clear t1 s12 b12 HR
  have hx2 := hx1.trans he1
  clear hx1 he1
  go_wp2_with fail
  refine HSp.out.mono ?_
  rintro e w2 ⟨v5, v6, rfl, t5, t6, he2⟩
  obtain ⟨r5, r6, ex⟩ := RB.two t5 t6
  have hx3 := (hx2.trans he2).trans ex
  have HL5 := Lib.hid (len_ok r5.2)
  have c5 := r5.1
  have c6 := r6.1
  have R6 := Lib.hid r6
  rw [q1] at HL5
  clear HSp r5 r6 t5 t6 ex he2 hx2 q1
  go_wp2_with fail
  refine HL5.out.mono ?_
  rintro e w3 ⟨rfl, he3⟩
  have r6 := R6.out.ext he3
  have HL6 := Lib.hid (len_ok r6.2)
  rw [q2] at HL6
  have hx4 := hx3.trans he3
  clear c5 c6 R6 HL5 hx3 he3 q2
  have c6 := r6.1
  clear r6
  go_wp2_with fail
  refine HL6.out.mono ?_
  rintro e w4 ⟨rfl, he4⟩
  have hx5 := hx4.trans he4
  have HO := Lib.hid (of_any (HL.out.ext hx5))
  clear c6 HL6 hx4 he4
  by_cases hn : n ≤ 4096
  rotate_left
  · have e1 : errF l = 2 := by unfold errF; rw [if_neg (by rw [hlen.out]; exact hn)]
    rw [e1] at HO
    go_wp2_with fail
    refine HO.out.mono ?_
    rintro e w5 ⟨v, rfl, _, he5⟩
    have hend := (hx5.trans he5).trans (Ext.alloc w5 (.cells #[.pointer v] 26))
    clear HO
    go_wp2_with fail
    go_ret
    exact ⟨rfl, hend⟩
  have e1 : errF l = 0 := by unfold errF; rw [if_pos (by rw [hlen.out]; exact hn)]
  rw [e1] at HO
  obtain ⟨sT, lT⟩ := rop_sz (l := l) (by rw [hlen.out]; exact hn)
  rw [hlen.out] at sT
  have bT := Lib.hid (rop_bal l).1
  have ST := Lib.hid (And.intro sT lT)
  clear sT lT
  generalize ropF l = t at *
  go_wp2_with fail
  refine HO.out.mono ?_
  rintro e w5 ⟨v, rfl, tv, he5⟩
  have r8 := RB.new tv
  have hx6 := (hx5.trans he5).trans (Ext.alloc w5 (.cells #[.pointer v] 26))
  clear HO hx5 he5 tv
  have c8 := r8.1
  have R8 := Lib.hid r8
  clear r8
  obtain ⟨n1, hn1⟩ : ∃ n1, n1 = n + 1 := ⟨_, rfl⟩
  have hw1 : IntKind.i64.wrap ((n : Int) + 1) = (n1 : Int) := by rw [IntWalk.i64_in _ (by omega)]; omega
  have HX : Hid (∀ w1, Calls Try.prog 15 #[.int .i64 k, .int .i64 n1] w1 fun e w' => e = .returned (.int .i64 (restF k n1)) ∧ w1 = w') :=
    Lib.hid (fun w1 => (rest_ok _ _ _ (by omega) (by omega)).mono fun _ _ ⟨ha, hb⟩ => ⟨ha, hb.symm⟩)
  have hi : restF k n1 < n1 := restF_lt (by omega)
  have HN1 := Lib.hid hn1
  have hi2 : restF k n1 ≤ n := by omega
  clear hi hn1
  go_wp2_with fail
  refine (HX.out _).mono ?_
  rintro e w' ⟨rfl, rfl⟩
  clear HX hw1
  generalize restF k n1 = i at *
  have HSp := Lib.hid (splitR_ok (k := i) R8.out.2 (by rw [ST.out.1]; exact hn) bT.out (by rw [ST.out.1]; exact hi2))
  obtain ⟨qa, qb⟩ := split_sz (k := i) bT.out
  obtain ⟨ba, bb, la, lb⟩ := Tr.split_spec (k := i) bT.out
  rw [ST.out.1] at qa qb
  rw [ST.out.2] at la lb
  have HQ := Lib.hid (And.intro (show (t.split i).1.sz = i by omega) (And.intro qb (And.intro ba (And.intro bb (And.intro la lb)))))
  clear qa qb ba bb la lb
  generalize (t.split i).1 = ta at *
  generalize (t.split i).2 = tb at *
  go_wp2_with fail
  refine HSp.out.mono ?_
  rintro e w6 ⟨va, vb, rfl, tva, tvb, he6⟩
  obtain ⟨r11, r12, ex⟩ := RB.two tva tvb
  have r8 := R8.out.ext (he6.trans ex)
  have hx7 := hx6.trans (he6.trans ex)
  have HJ := Lib.hid (joinR_ok r11.2 r12.2 (by have := HQ.out.1; have := HQ.out.2.1; omega) HQ.out.2.2.1 HQ.out.2.2.2.1)
  clear HSp R8 c8 hx6 he6 ex tva tvb
  have c8 := r8.1
  have c11 := r11.1
  have c12 := r12.1
  have R8 := Lib.hid r8
  have R11 := Lib.hid r11
  have R12 := Lib.hid r12
  clear r8 r11 r12
  go_wp2_with fail
  refine HJ.out.mono ?_
  rintro e w7 ⟨vj, rfl, tj, he7⟩
  have ex := Ext.alloc w7 (.cells #[.pointer vj] 26)
  have hf := he7.trans ex
  have r13 := RB.new tj
  have r8 := R8.out.ext hf
  have r11 := R11.out.ext hf
  have r12 := R12.out.ext hf
  have hx8 := hx7.trans hf
  have k1 := (Tr.concat_spec HQ.out.2.2.1 HQ.out.2.2.2.1).2
  rw [HQ.out.2.2.2.2.1, HQ.out.2.2.2.2.2, List.take_append_drop] at k1
  have k2 : (Tr.concat ta tb).sz = n := by rw [← Tr.len, k1, hlen.out]
  have HLi := Lib.hid (list_ok r13.2 (by omega))
  rw [k1, k2] at HLi
  clear HJ R8 c8 R11 c11 R12 c12 hx7 hf ex he7 tj k1 k2
  have c8 := r8.1
  have c11 := r11.1
  have c12 := r12.1
  have c13 := r13.1
  have R8 := Lib.hid r8
  have R11 := Lib.hid r11
  have R12 := Lib.hid r12
  clear r8 r11 r12 r13
  go_wp2_with fail
  refine HLi.out.mono ?_
  rintro e w8 ⟨B, q, rfl, oB, he8⟩
  have hx9 := hx8.trans he8
  have HE := Lib.hid (equal_same oB.ints (HL.out.ext hx9))
  have r8 := R8.out.ext he8
  have r11 := R11.out.ext he8
  have r12 := R12.out.ext he8
  clear HLi oB R8 c8 R11 c11 R12 c12 c13 hx8 he8
  have c11 := r11.1
  have R8 := Lib.hid r8
  have R11 := Lib.hid r11
  have R12 := Lib.hid r12
  clear r8 r11 r12
  go_wp2_with fail
  refine HE.out.mono ?_
  rintro e w9 ⟨rfl, he9⟩
  have r8 := R8.out.ext he9
  have r11 := R11.out.ext he9
  have r12 := R12.out.ext he9
  have hx10 := hx9.trans he9
  have HLn := Lib.hid (len_ok r11.2)
  rw [HQ.out.1] at HLn
  clear HE R8 R11 c11 R12 hx9 he9
  have c11 := r11.1
  have R8 := Lib.hid r8
  have R11 := Lib.hid r11
  have R12 := Lib.hid r12
  clear r8 r11 r12
  go_wp2_with fail
  refine HLn.out.mono ?_
  rintro e w10 ⟨rfl, he10⟩
  have r8 := Lib.hid (R8.out.ext he10)
  have r11 := Lib.hid (R11.out.ext he10)
  have r12 := Lib.hid (R12.out.ext he10)
  have hx11 := hx10.trans he10
  clear HLn R8 R11 c11 R12 hx10 he10
  go_wp2_with fail
  go_loopw [87] (fun iv wr => ∃ j : Nat, j ≤ n ∧ iv = .int .i64 j ∧ Hid (RB wr w5.heap.size v t) ∧ Hid (RB wr w6.heap.size va ta) ∧ Hid (RB wr (w6.heap.size + 1) vb tb) ∧ Ext w wr) (fun iv _ => n - (intOf iv).toNat)
  case atStart => exact ⟨0, by omega, rfl, r8, r11, r12, hx11⟩
  case round =>
    clear r8 r11 r12 hx11
    obtain ⟨j, hj, rfl, R8, R11, R12, he⟩ := hrel
    by_cases hlt : j < n
    · have HA := Lib.hid (at_ok (k := j) R8.out.2 (by have := ST.out.1; omega) (by rw [ST.out.1]; exact hlt))
      rw [ST.out.2] at HA
      have c8 := R8.out.1
      go_wp2_with fail
      refine HA.out.mono ?_
      rintro e w11 ⟨rfl, he11⟩
      have c11 := (R11.out.ext he11).1
      have c12 := (R12.out.ext he11).1
      clear HA c8
      by_cases hji : j < i
      · have hji2 : ¬ (i : Int) ≤ (j : Int) := by omega
        have ex := Ext.alloc w11 (.cells #[.pointer va] 26)
        have HA2 := Lib.hid (at_ok (k := j) (TreeAt.ext (he11.trans ex) R11.out.2) (by have h1 := HQ.out.1; have h2 := HQ.out.2.1; omega) (by have h1 := HQ.out.1; have h2 := HQ.out.2.1; omega))
        rw [HQ.out.2.2.2.2.1, splits_at.1 hji] at HA2
        have hf := he11.trans ex
        go_wp2_with fail
        refine HA2.out.mono ?_
        rintro e w12 ⟨rfl, he12⟩
        have hg := hf.trans he12
        have r8 := Lib.hid (R8.out.ext hg)
        have r11 := Lib.hid (R11.out.ext hg)
        have r12 := Lib.hid (R12.out.ext hg)
        have hend := he.trans hg
        clear HA2 hf he12 hg he11 ex c11 c12 R8 R11 R12 he
        go_wp2_with fail
        go_roundw
        case rel => exact ⟨j + 1, by omega, by go_num, r8, r11, r12, hend⟩
        case measure => simp [intOf]; omega
      · have hji2 : (i : Int) ≤ (j : Int) := by omega
        have hji3 : i ≤ j := by omega
        have c12a := Ext.cell (Ext.alloc w11 (.cells #[.pointer va] 26)) c12
        have ex := Ext.alloc w11 (.cells #[.pointer vb] 26)
        have HA2 := Lib.hid (at_ok (k := j - i) (TreeAt.ext (he11.trans ex) R12.out.2) (by have h1 := HQ.out.1; have h2 := HQ.out.2.1; omega) (by have h1 := HQ.out.1; have h2 := HQ.out.2.1; omega))
        rw [HQ.out.2.2.2.2.2, splits_at.2 hji3, show ((j - i : Nat) : Int) = (j : Int) - (i : Int) by omega] at HA2
        have hf := he11.trans ex
        go_wp2_with fail
        refine HA2.out.mono ?_
        rintro e w12 ⟨rfl, he12⟩
        have hg := hf.trans he12
        have r8 := Lib.hid (R8.out.ext hg)
        have r11 := Lib.hid (R11.out.ext hg)
        have r12 := Lib.hid (R12.out.ext hg)
        have hend := he.trans hg
        clear HA2 hf he12 hg he11 ex c11 c12 c12a R8 R11 R12 he
        go_wp2_with fail
        go_roundw
        case rel => exact ⟨j + 1, by omega, by go_num, r8, r11, r12, hend⟩
        case measure => simp [intOf]; omega
    · obtain rfl : j = n := by omega
      go_wp2_with fail
      go_ret
      exact ⟨rfl, he⟩
end Go.Proofs.Ythljopjpjjaadaa
