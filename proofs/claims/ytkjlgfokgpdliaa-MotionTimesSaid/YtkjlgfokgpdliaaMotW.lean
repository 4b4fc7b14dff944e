/-
  The walk of MotionTimes.
-/
import Derived.Test.YtkjlgfokgpdliaaMotU
import Derived.Test.YtkjlgfokgpdliaaMotV
namespace Go.Proofs.Ytkjlgfokgpdliaa
open Go.RowKit
set_option linter.unusedVariables false
set_option linter.unusedSimpArgs false

theorem lit_go {e : Ending} (h : goPost (chars ⟨#[97, 98, 99]⟩) 3 0 108 2 0 false e) : e = .returned (.tuple #[.int .i64 2, .bool false, .int .i64 0]) := by
  have hok : okM 3 0 108 2 := ⟨by omega, by omega, by omega, by omega, by omega, by decide +kernel⟩
  rcases h with ⟨_, o, h, rfl⟩ | ⟨h, _⟩
  · have := mt_lit h
    subst this
    rfl
  · exact absurd hok h

theorem go_says2 {l : List Int} {n : Nat} {k key cnt arg : Int} {op : Bool} {e : Ending} (h : goPost l n k key cnt arg op e) :
    (∃ (er : Int) (i : Bool), (er != 0) = true ∧ e = .returned (.tuple #[.int .i64 0, .bool i, .int .i64 er])) ∨ (∃ (a : Nat) (i : Bool), okM n k key cnt ∧ goR l k.toNat key arg (max 1 cnt).toNat op (some (a, i)) ∧ e = .returned (.tuple #[.int .i64 a, .bool i, .int .i64 0])) := by
  rcases h with ⟨hok, o, hR, rfl⟩ | ⟨_, er, h1, rfl⟩
  · rcases o with _ | ⟨a, i⟩
    · exact .inl ⟨5, false, rfl, rfl⟩
    · exact .inr ⟨a, i, hok, hR, rfl⟩
  · exact .inl ⟨er, false, h1, rfl⟩
theorem go_says3 {l : List Int} {n : Nat} {k key cnt arg : Int} {op : Bool} {e : Ending} (hok : okM n k key cnt) (h : goPost l n k key cnt arg op e) :
    (goR l k.toNat key arg (max 1 cnt).toNat op none ∧ e = .returned (.tuple #[.int .i64 0, .bool false, .int .i64 5])) ∨ (∃ (a : Nat) (i : Bool), goR l k.toNat key arg (max 1 cnt).toNat op (some (a, i)) ∧ e = .returned (.tuple #[.int .i64 a, .bool i, .int .i64 0])) := by
  rcases h with ⟨_, o, hR, rfl⟩ | ⟨h, _⟩
  · rcases o with _ | ⟨a, i⟩
    · exact .inl ⟨hR, rfl⟩
    · exact .inr ⟨a, i, hR, rfl⟩
  · exact absurd hok h

set_option maxRecDepth 100000 in
set_option maxHeartbeats 4000000 in
theorem mt_w104 {A : Option Addr} {n c : Nat} {l : List Int} {k cnt : Int} {op : Bool} {w : World} (hl : Ints w A n c l) (wl : ∀ x ∈ l, (Lit.int .i64 x).wf = true) :
    Calls Try.prog 7 #[.slice A n c, .int .i64 k, .int .i64 104, .int .i64 cnt, .bool op] w fun e w' => e = .returned (.bool true) ∧ Ext w w' := by
  have HKey : Hid (mtKey 104) := Lib.hid (by unfold mtKey; omega)
  have hnc := hl.ncap
  have hcm := hl.nmax
  have hlen := Lib.hid hl.len
  have WL := Lib.hid wl
  unfold maxLen at hcm
  clear wl
  have hO := Lib.hid (of_ok "abc".toUTF8 w (by decide +kernel))
  have e0 : "abc".toUTF8 = ⟨#[97, 98, 99]⟩ := by decide +kernel
  rw [e0] at hO
  clear e0
  go_enter Try.func7, Try.ntmps7
  go_wp2_with fail
  refine hO.out.mono ?_
  rintro e w1 ⟨A1, c1, rfl, hA1, he1⟩
  clear hO
  have h2 : ByteArray.size ⟨#[97, 98, 99]⟩ = 3 := by decide +kernel
  rw [h2] at hA1 ⊢
  clear h2
  go_wp2_with fail
  have wA : ∀ x ∈ chars ⟨#[97, 98, 99]⟩, (Lit.int .i64 x).wf = true := by
    intro x hx
    unfold chars at hx
    obtain ⟨b, _, rfl⟩ := List.mem_map.1 hx
    have := b.toNat_lt
    simp [Lit.wf, IntKind.min, IntKind.max, IntKind.signed, IntKind.bits]
    omega
  have HR := Lib.hid (mgo_all (k := 0) (key := 108) (cnt := 2) (arg := 0) (op := false) hA1.ints wA)
  clear wA
  refine HR.out.mono ?_
  rintro e w2 ⟨hp, he2⟩
  have hE := lit_go hp
  subst hE
  have hxe := he1.trans he2
  have HGo := Lib.hid (fun (k' cnt' : Int) (w3 : World) (he3 : Ext w2 w3) => mgo_all (k := k') (key := 104) (cnt := cnt') (arg := 97) (op := op) ((hl.ext hxe).ext he3) WL.out)
  have hx3 := Ext.alloc w2 (.cells #[.int .i64 104, .int .i64 cnt, .int .i64 97] 42)
  have hb3 := Blk.new w2 42 #[.int .i64 104, .int .i64 cnt, .int .i64 97]
  have hws := hxe.hsize
  clear HR hp hA1 he1 he2 hl WL
  go_wp2_with fail
  refine (HGo.out k cnt _ hx3).mono ?_
  rintro e w4 ⟨hp, he4⟩
  have hx4 := hx3.trans he4
  have hb4 := hb3.ext he4
  clear hb3 hx3 he4
  rcases go_says2 hp with ⟨er, i, her, rfl⟩ | ⟨a, i, hok, hR, rfl⟩
  · clear hp
    go_wp2_with fail
    go_ret
    exact ⟨rfl, hxe.trans hx4⟩
  · by_cases hn1 : cnt < 1
    · clear hp hok hR
      go_wp2_with fail
      go_ret
      exact ⟨rfl, hxe.trans hx4⟩
    · obtain ⟨N, rfl⟩ := Int.eq_ofNat_of_zero_le (show 0 ≤ cnt by omega)
      obtain ⟨hn, hk0, hk1, _, hc1, hkk⟩ := hok
      obtain ⟨kn, rfl⟩ := Int.eq_ofNat_of_zero_le hk0
      have hN1 : 1 ≤ N := by omega
      rw [show (max 1 (N : Int)).toNat = N by omega] at hR
      have hR' : goR l kn 104 97 N op (some (a, i)) := hR
      have HI0 := Lib.hid (mt_start HKey.out hN1 hR')
      have HIE := Lib.hid (fun p => mt_end HKey.out hN1 hR' (p := p))
      have HIS1 := Lib.hid (fun j p (hj : j < N) (hI : mtInv l kn 104 N op a j p) h => mt_step1 HKey.out hj hI h)
      have HIS2 := Lib.hid (fun j p (hj : j < N) (hI : mtInv l kn 104 N op a j p) a' i' h => mt_step2 HKey.out hj hI (a' := a') (i' := i') h)
      have HOK := Lib.hid hkk
      have f1 := hb4.frozen 1
      have c1 := hb4.cell 1
      have c0 := hb4.cell 0
      have c2 := hb4.cell 2
      simp only [List.getElem?_toArray, List.getElem?_cons_zero, List.getElem?_cons_succ] at c0 c1 c2
      clear hp hR hR' hkk
      have HXF := Lib.hid (hxe.trans hx4)
      have HX4 := Lib.hid hx4
      go_wp2_with fail
      have hbL : Blk (w4.setCell ⟨w2.heap.size, 1, none⟩ (.int .i64 1)) w2.heap.size 42 #[.int .i64 104, .int .i64 1, .int .i64 97] := by
        simpa using hb4.set_ 1 (.int .i64 1)
      have hxL : Ext w2 (w4.setCell ⟨w2.heap.size, 1, none⟩ (.int .i64 1)) := HX4.out.setCell (Nat.le_refl _) _
      clear c0 c1 c2 f1 hb4
      go_loopw [18, 66] (fun p i wr => ∃ j q : Nat, j ≤ N ∧ i = .int .i64 j ∧ p = .int .i64 q ∧ (q = 0 ∨ q < n) ∧ Hid (mtInv l kn 104 N op a j q) ∧ Blk wr w2.heap.size 42 #[.int .i64 104, .int .i64 1, .int .i64 97] ∧ Ext w2 wr) (fun _ i _ => N - (intOf i).toNat)
      case atStart => exact ⟨0, kn, by omega, rfl, rfl, by omega, HI0, hbL, hxL⟩
      case round =>
        clear hbL hxL
        obtain ⟨j, q, hj, rfl, rfl, hq, HI, hb, he⟩ := hrel
        have c0 := hb.cell 0
        have c1 := hb.cell 1
        have c2 := hb.cell 2
        simp only [List.getElem?_toArray, List.getElem?_cons_zero, List.getElem?_cons_succ] at c0 c1 c2
        by_cases hlt : j < N
        · have hC := Lib.hid (HGo.out q 1 _ he)
          clear HGo
          go_wp2_with fail
          refine hC.out.mono ?_
          rintro e w5 ⟨hp, he5⟩
          have hb5 := hb.ext he5
          have hx5 := he.trans he5
          have hokq : okM n q 104 1 := ⟨by omega, by omega, by omega, by omega, by omega, HOK.out⟩
          rcases go_says3 hokq hp with ⟨hR, rfl⟩ | ⟨a', i', hR, rfl⟩
          · have hS := HIS1.out j q hlt HI.out hR
            clear hp hR c0 c1 c2 hb
            first
              | (exfalso; exact hS.1 rfl)
              | (exfalso; exact hS.2 rfl)
              | (clear hS
                 go_wp2_with fail
                 go_ret
                 exact ⟨rfl, hxe.trans hx5⟩)
          · obtain ⟨hS1, hS2⟩ := HIS2.out j q hlt HI.out a' i' hR
            rw [hlen.out] at hS2
            have HS1 := Lib.hid hS1
            clear hp hR c0 c1 c2 hb hS1 hokq
            by_cases ha : a' < n
            · clear hS2
              go_wp2_with fail
              exact ⟨⟨j + 1, a', by omega, by go_num, rfl, by omega, HS1, hb5, hx5⟩, by simp [intOf] <;> omega⟩
            · first
                | (exfalso; have := hS2 (.inl rfl); omega)
                | (exfalso; have := hS2 (.inr rfl); omega)
                | (clear hS2
                   go_wp2_with fail
                   go_ret
                   exact ⟨rfl, hxe.trans hx5⟩)
        · obtain rfl : j = N := by omega
          obtain rfl := HIE.out q HI.out
          clear HGo c0 c1 c2
          go_wp2_with fail
          go_ret
          exact ⟨rfl, hxe.trans he⟩

set_option maxRecDepth 100000 in
set_option maxHeartbeats 4000000 in
theorem mt_w108 {A : Option Addr} {n c : Nat} {l : List Int} {k cnt : Int} {op : Bool} {w : World} (hl : Ints w A n c l) (wl : ∀ x ∈ l, (Lit.int .i64 x).wf = true) :
    Calls Try.prog 7 #[.slice A n c, .int .i64 k, .int .i64 108, .int .i64 cnt, .bool op] w fun e w' => e = .returned (.bool true) ∧ Ext w w' := by
  have HKey : Hid (mtKey 108) := Lib.hid (by unfold mtKey; omega)
  have hnc := hl.ncap
  have hcm := hl.nmax
  have hlen := Lib.hid hl.len
  have WL := Lib.hid wl
  unfold maxLen at hcm
  clear wl
  have hO := Lib.hid (of_ok "abc".toUTF8 w (by decide +kernel))
  have e0 : "abc".toUTF8 = ⟨#[97, 98, 99]⟩ := by decide +kernel
  rw [e0] at hO
  clear e0
  go_enter Try.func7, Try.ntmps7
  go_wp2_with fail
  refine hO.out.mono ?_
  rintro e w1 ⟨A1, c1, rfl, hA1, he1⟩
  clear hO
  have h2 : ByteArray.size ⟨#[97, 98, 99]⟩ = 3 := by decide +kernel
  rw [h2] at hA1 ⊢
  clear h2
  go_wp2_with fail
  have wA : ∀ x ∈ chars ⟨#[97, 98, 99]⟩, (Lit.int .i64 x).wf = true := by
    intro x hx
    unfold chars at hx
    obtain ⟨b, _, rfl⟩ := List.mem_map.1 hx
    have := b.toNat_lt
    simp [Lit.wf, IntKind.min, IntKind.max, IntKind.signed, IntKind.bits]
    omega
  have HR := Lib.hid (mgo_all (k := 0) (key := 108) (cnt := 2) (arg := 0) (op := false) hA1.ints wA)
  clear wA
  refine HR.out.mono ?_
  rintro e w2 ⟨hp, he2⟩
  have hE := lit_go hp
  subst hE
  have hxe := he1.trans he2
  have HGo := Lib.hid (fun (k' cnt' : Int) (w3 : World) (he3 : Ext w2 w3) => mgo_all (k := k') (key := 108) (cnt := cnt') (arg := 97) (op := op) ((hl.ext hxe).ext he3) WL.out)
  have hx3 := Ext.alloc w2 (.cells #[.int .i64 108, .int .i64 cnt, .int .i64 97] 42)
  have hb3 := Blk.new w2 42 #[.int .i64 108, .int .i64 cnt, .int .i64 97]
  have hws := hxe.hsize
  clear HR hp hA1 he1 he2 hl WL
  go_wp2_with fail
  refine (HGo.out k cnt _ hx3).mono ?_
  rintro e w4 ⟨hp, he4⟩
  have hx4 := hx3.trans he4
  have hb4 := hb3.ext he4
  clear hb3 hx3 he4
  rcases go_says2 hp with ⟨er, i, her, rfl⟩ | ⟨a, i, hok, hR, rfl⟩
  · clear hp
    go_wp2_with fail
    go_ret
    exact ⟨rfl, hxe.trans hx4⟩
  · by_cases hn1 : cnt < 1
    · clear hp hok hR
      go_wp2_with fail
      go_ret
      exact ⟨rfl, hxe.trans hx4⟩
    · obtain ⟨N, rfl⟩ := Int.eq_ofNat_of_zero_le (show 0 ≤ cnt by omega)
      obtain ⟨hn, hk0, hk1, _, hc1, hkk⟩ := hok
      obtain ⟨kn, rfl⟩ := Int.eq_ofNat_of_zero_le hk0
      have hN1 : 1 ≤ N := by omega
      rw [show (max 1 (N : Int)).toNat = N by omega] at hR
      have hR' : goR l kn 108 97 N op (some (a, i)) := hR
      have HI0 := Lib.hid (mt_start HKey.out hN1 hR')
      have HIE := Lib.hid (fun p => mt_end HKey.out hN1 hR' (p := p))
      have HIS1 := Lib.hid (fun j p (hj : j < N) (hI : mtInv l kn 108 N op a j p) h => mt_step1 HKey.out hj hI h)
      have HIS2 := Lib.hid (fun j p (hj : j < N) (hI : mtInv l kn 108 N op a j p) a' i' h => mt_step2 HKey.out hj hI (a' := a') (i' := i') h)
      have HOK := Lib.hid hkk
      have f1 := hb4.frozen 1
      have c1 := hb4.cell 1
      have c0 := hb4.cell 0
      have c2 := hb4.cell 2
      simp only [List.getElem?_toArray, List.getElem?_cons_zero, List.getElem?_cons_succ] at c0 c1 c2
      clear hp hR hR' hkk
      have HXF := Lib.hid (hxe.trans hx4)
      have HX4 := Lib.hid hx4
      go_wp2_with fail
      have hbL : Blk (w4.setCell ⟨w2.heap.size, 1, none⟩ (.int .i64 1)) w2.heap.size 42 #[.int .i64 108, .int .i64 1, .int .i64 97] := by
        simpa using hb4.set_ 1 (.int .i64 1)
      have hxL : Ext w2 (w4.setCell ⟨w2.heap.size, 1, none⟩ (.int .i64 1)) := HX4.out.setCell (Nat.le_refl _) _
      clear c0 c1 c2 f1 hb4
      go_loopw [18, 66] (fun p i wr => ∃ j q : Nat, j ≤ N ∧ i = .int .i64 j ∧ p = .int .i64 q ∧ (q = 0 ∨ q < n) ∧ Hid (mtInv l kn 108 N op a j q) ∧ Blk wr w2.heap.size 42 #[.int .i64 108, .int .i64 1, .int .i64 97] ∧ Ext w2 wr) (fun _ i _ => N - (intOf i).toNat)
      case atStart => exact ⟨0, kn, by omega, rfl, rfl, by omega, HI0, hbL, hxL⟩
      case round =>
        clear hbL hxL
        obtain ⟨j, q, hj, rfl, rfl, hq, HI, hb, he⟩ := hrel
        have c0 := hb.cell 0
        have c1 := hb.cell 1
        have c2 := hb.cell 2
        simp only [List.getElem?_toArray, List.getElem?_cons_zero, List.getElem?_cons_succ] at c0 c1 c2
        by_cases hlt : j < N
        · have hC := Lib.hid (HGo.out q 1 _ he)
          clear HGo
          go_wp2_with fail
          refine hC.out.mono ?_
          rintro e w5 ⟨hp, he5⟩
          have hb5 := hb.ext he5
          have hx5 := he.trans he5
          have hokq : okM n q 108 1 := ⟨by omega, by omega, by omega, by omega, by omega, HOK.out⟩
          rcases go_says3 hokq hp with ⟨hR, rfl⟩ | ⟨a', i', hR, rfl⟩
          · have hS := HIS1.out j q hlt HI.out hR
            clear hp hR c0 c1 c2 hb
            first
              | (exfalso; exact hS.1 rfl)
              | (exfalso; exact hS.2 rfl)
              | (clear hS
                 go_wp2_with fail
                 go_ret
                 exact ⟨rfl, hxe.trans hx5⟩)
          · obtain ⟨hS1, hS2⟩ := HIS2.out j q hlt HI.out a' i' hR
            rw [hlen.out] at hS2
            have HS1 := Lib.hid hS1
            clear hp hR c0 c1 c2 hb hS1 hokq
            by_cases ha : a' < n
            · clear hS2
              go_wp2_with fail
              exact ⟨⟨j + 1, a', by omega, by go_num, rfl, by omega, HS1, hb5, hx5⟩, by simp [intOf] <;> omega⟩
            · first
                | (exfalso; have := hS2 (.inl rfl); omega)
                | (exfalso; have := hS2 (.inr rfl); omega)
                | (clear hS2
                   go_wp2_with fail
                   go_ret
                   exact ⟨rfl, hxe.trans hx5⟩)
        · obtain rfl : j = N := by omega
          obtain rfl := HIE.out q HI.out
          clear HGo c0 c1 c2
          go_wp2_with fail
          go_ret
          exact ⟨rfl, hxe.trans he⟩

set_option maxRecDepth 100000 in
set_option maxHeartbeats 4000000 in
theorem mt_w98 {A : Option Addr} {n c : Nat} {l : List Int} {k cnt : Int} {op : Bool} {w : World} (hl : Ints w A n c l) (wl : ∀ x ∈ l, (Lit.int .i64 x).wf = true) :
    Calls Try.prog 7 #[.slice A n c, .int .i64 k, .int .i64 98, .int .i64 cnt, .bool op] w fun e w' => e = .returned (.bool true) ∧ Ext w w' := by
  have HKey : Hid (mtKey 98) := Lib.hid (by unfold mtKey; omega)
  have hnc := hl.ncap
  have hcm := hl.nmax
  have hlen := Lib.hid hl.len
  have WL := Lib.hid wl
  unfold maxLen at hcm
  clear wl
  have hO := Lib.hid (of_ok "abc".toUTF8 w (by decide +kernel))
  have e0 : "abc".toUTF8 = ⟨#[97, 98, 99]⟩ := by decide +kernel
  rw [e0] at hO
  clear e0
  go_enter Try.func7, Try.ntmps7
  go_wp2_with fail
  refine hO.out.mono ?_
  rintro e w1 ⟨A1, c1, rfl, hA1, he1⟩
  clear hO
  have h2 : ByteArray.size ⟨#[97, 98, 99]⟩ = 3 := by decide +kernel
  rw [h2] at hA1 ⊢
  clear h2
  go_wp2_with fail
  have wA : ∀ x ∈ chars ⟨#[97, 98, 99]⟩, (Lit.int .i64 x).wf = true := by
    intro x hx
    unfold chars at hx
    obtain ⟨b, _, rfl⟩ := List.mem_map.1 hx
    have := b.toNat_lt
    simp [Lit.wf, IntKind.min, IntKind.max, IntKind.signed, IntKind.bits]
    omega
  have HR := Lib.hid (mgo_all (k := 0) (key := 108) (cnt := 2) (arg := 0) (op := false) hA1.ints wA)
  clear wA
  refine HR.out.mono ?_
  rintro e w2 ⟨hp, he2⟩
  have hE := lit_go hp
  subst hE
  have hxe := he1.trans he2
  have HGo := Lib.hid (fun (k' cnt' : Int) (w3 : World) (he3 : Ext w2 w3) => mgo_all (k := k') (key := 98) (cnt := cnt') (arg := 97) (op := op) ((hl.ext hxe).ext he3) WL.out)
  have hx3 := Ext.alloc w2 (.cells #[.int .i64 98, .int .i64 cnt, .int .i64 97] 42)
  have hb3 := Blk.new w2 42 #[.int .i64 98, .int .i64 cnt, .int .i64 97]
  have hws := hxe.hsize
  clear HR hp hA1 he1 he2 hl WL
  go_wp2_with fail
  refine (HGo.out k cnt _ hx3).mono ?_
  rintro e w4 ⟨hp, he4⟩
  have hx4 := hx3.trans he4
  have hb4 := hb3.ext he4
  clear hb3 hx3 he4
  rcases go_says2 hp with ⟨er, i, her, rfl⟩ | ⟨a, i, hok, hR, rfl⟩
  · clear hp
    go_wp2_with fail
    go_ret
    exact ⟨rfl, hxe.trans hx4⟩
  · by_cases hn1 : cnt < 1
    · clear hp hok hR
      go_wp2_with fail
      go_ret
      exact ⟨rfl, hxe.trans hx4⟩
    · obtain ⟨N, rfl⟩ := Int.eq_ofNat_of_zero_le (show 0 ≤ cnt by omega)
      obtain ⟨hn, hk0, hk1, _, hc1, hkk⟩ := hok
      obtain ⟨kn, rfl⟩ := Int.eq_ofNat_of_zero_le hk0
      have hN1 : 1 ≤ N := by omega
      rw [show (max 1 (N : Int)).toNat = N by omega] at hR
      have hR' : goR l kn 98 97 N op (some (a, i)) := hR
      have HI0 := Lib.hid (mt_start HKey.out hN1 hR')
      have HIE := Lib.hid (fun p => mt_end HKey.out hN1 hR' (p := p))
      have HIS1 := Lib.hid (fun j p (hj : j < N) (hI : mtInv l kn 98 N op a j p) h => mt_step1 HKey.out hj hI h)
      have HIS2 := Lib.hid (fun j p (hj : j < N) (hI : mtInv l kn 98 N op a j p) a' i' h => mt_step2 HKey.out hj hI (a' := a') (i' := i') h)
      have HOK := Lib.hid hkk
      have f1 := hb4.frozen 1
      have c1 := hb4.cell 1
      have c0 := hb4.cell 0
      have c2 := hb4.cell 2
      simp only [List.getElem?_toArray, List.getElem?_cons_zero, List.getElem?_cons_succ] at c0 c1 c2
      clear hp hR hR' hkk
      have HXF := Lib.hid (hxe.trans hx4)
      have HX4 := Lib.hid hx4
      go_wp2_with fail
      have hbL : Blk (w4.setCell ⟨w2.heap.size, 1, none⟩ (.int .i64 1)) w2.heap.size 42 #[.int .i64 98, .int .i64 1, .int .i64 97] := by
        simpa using hb4.set_ 1 (.int .i64 1)
      have hxL : Ext w2 (w4.setCell ⟨w2.heap.size, 1, none⟩ (.int .i64 1)) := HX4.out.setCell (Nat.le_refl _) _
      clear c0 c1 c2 f1 hb4
      go_loopw [18, 66] (fun p i wr => ∃ j q : Nat, j ≤ N ∧ i = .int .i64 j ∧ p = .int .i64 q ∧ (q = 0 ∨ q < n) ∧ Hid (mtInv l kn 98 N op a j q) ∧ Blk wr w2.heap.size 42 #[.int .i64 98, .int .i64 1, .int .i64 97] ∧ Ext w2 wr) (fun _ i _ => N - (intOf i).toNat)
      case atStart => exact ⟨0, kn, by omega, rfl, rfl, by omega, HI0, hbL, hxL⟩
      case round =>
        clear hbL hxL
        obtain ⟨j, q, hj, rfl, rfl, hq, HI, hb, he⟩ := hrel
        have c0 := hb.cell 0
        have c1 := hb.cell 1
        have c2 := hb.cell 2
        simp only [List.getElem?_toArray, List.getElem?_cons_zero, List.getElem?_cons_succ] at c0 c1 c2
        by_cases hlt : j < N
        · have hC := Lib.hid (HGo.out q 1 _ he)
          clear HGo
          go_wp2_with fail
          refine hC.out.mono ?_
          rintro e w5 ⟨hp, he5⟩
          have hb5 := hb.ext he5
          have hx5 := he.trans he5
          have hokq : okM n q 98 1 := ⟨by omega, by omega, by omega, by omega, by omega, HOK.out⟩
          rcases go_says3 hokq hp with ⟨hR, rfl⟩ | ⟨a', i', hR, rfl⟩
          · have hS := HIS1.out j q hlt HI.out hR
            clear hp hR c0 c1 c2 hb
            first
              | (exfalso; exact hS.1 rfl)
              | (exfalso; exact hS.2 rfl)
              | (clear hS
                 go_wp2_with fail
                 go_ret
                 exact ⟨rfl, hxe.trans hx5⟩)
          · obtain ⟨hS1, hS2⟩ := HIS2.out j q hlt HI.out a' i' hR
            rw [hlen.out] at hS2
            have HS1 := Lib.hid hS1
            clear hp hR c0 c1 c2 hb hS1 hokq
            by_cases ha : a' < n
            · clear hS2
              go_wp2_with fail
              exact ⟨⟨j + 1, a', by omega, by go_num, rfl, by omega, HS1, hb5, hx5⟩, by simp [intOf] <;> omega⟩
            · first
                | (exfalso; have := hS2 (.inl rfl); omega)
                | (exfalso; have := hS2 (.inr rfl); omega)
                | (clear hS2
                   go_wp2_with fail
                   go_ret
                   exact ⟨rfl, hxe.trans hx5⟩)
        · obtain rfl : j = N := by omega
          obtain rfl := HIE.out q HI.out
          clear HGo c0 c1 c2
          go_wp2_with fail
          go_ret
          exact ⟨rfl, hxe.trans he⟩

set_option maxRecDepth 100000 in
set_option maxHeartbeats 4000000 in
theorem mt_w66 {A : Option Addr} {n c : Nat} {l : List Int} {k cnt : Int} {op : Bool} {w : World} (hl : Ints w A n c l) (wl : ∀ x ∈ l, (Lit.int .i64 x).wf = true) :
    Calls Try.prog 7 #[.slice A n c, .int .i64 k, .int .i64 66, .int .i64 cnt, .bool op] w fun e w' => e = .returned (.bool true) ∧ Ext w w' := by
  have HKey : Hid (mtKey 66) := Lib.hid (by unfold mtKey; omega)
  have hnc := hl.ncap
  have hcm := hl.nmax
  have hlen := Lib.hid hl.len
  have WL := Lib.hid wl
  unfold maxLen at hcm
  clear wl
  have hO := Lib.hid (of_ok "abc".toUTF8 w (by decide +kernel))
  have e0 : "abc".toUTF8 = ⟨#[97, 98, 99]⟩ := by decide +kernel
  rw [e0] at hO
  clear e0
  go_enter Try.func7, Try.ntmps7
  go_wp2_with fail
  refine hO.out.mono ?_
  rintro e w1 ⟨A1, c1, rfl, hA1, he1⟩
  clear hO
  have h2 : ByteArray.size ⟨#[97, 98, 99]⟩ = 3 := by decide +kernel
  rw [h2] at hA1 ⊢
  clear h2
  go_wp2_with fail
  have wA : ∀ x ∈ chars ⟨#[97, 98, 99]⟩, (Lit.int .i64 x).wf = true := by
    intro x hx
    unfold chars at hx
    obtain ⟨b, _, rfl⟩ := List.mem_map.1 hx
    have := b.toNat_lt
    simp [Lit.wf, IntKind.min, IntKind.max, IntKind.signed, IntKind.bits]
    omega
  have HR := Lib.hid (mgo_all (k := 0) (key := 108) (cnt := 2) (arg := 0) (op := false) hA1.ints wA)
  clear wA
  refine HR.out.mono ?_
  rintro e w2 ⟨hp, he2⟩
  have hE := lit_go hp
  subst hE
  have hxe := he1.trans he2
  have HGo := Lib.hid (fun (k' cnt' : Int) (w3 : World) (he3 : Ext w2 w3) => mgo_all (k := k') (key := 66) (cnt := cnt') (arg := 97) (op := op) ((hl.ext hxe).ext he3) WL.out)
  have hx3 := Ext.alloc w2 (.cells #[.int .i64 66, .int .i64 cnt, .int .i64 97] 42)
  have hb3 := Blk.new w2 42 #[.int .i64 66, .int .i64 cnt, .int .i64 97]
  have hws := hxe.hsize
  clear HR hp hA1 he1 he2 hl WL
  go_wp2_with fail
  refine (HGo.out k cnt _ hx3).mono ?_
  rintro e w4 ⟨hp, he4⟩
  have hx4 := hx3.trans he4
  have hb4 := hb3.ext he4
  clear hb3 hx3 he4
  rcases go_says2 hp with ⟨er, i, her, rfl⟩ | ⟨a, i, hok, hR, rfl⟩
  · clear hp
    go_wp2_with fail
    go_ret
    exact ⟨rfl, hxe.trans hx4⟩
  · by_cases hn1 : cnt < 1
    · clear hp hok hR
      go_wp2_with fail
      go_ret
      exact ⟨rfl, hxe.trans hx4⟩
    · obtain ⟨N, rfl⟩ := Int.eq_ofNat_of_zero_le (show 0 ≤ cnt by omega)
      obtain ⟨hn, hk0, hk1, _, hc1, hkk⟩ := hok
      obtain ⟨kn, rfl⟩ := Int.eq_ofNat_of_zero_le hk0
      have hN1 : 1 ≤ N := by omega
      rw [show (max 1 (N : Int)).toNat = N by omega] at hR
      have hR' : goR l kn 66 97 N op (some (a, i)) := hR
      have HI0 := Lib.hid (mt_start HKey.out hN1 hR')
      have HIE := Lib.hid (fun p => mt_end HKey.out hN1 hR' (p := p))
      have HIS1 := Lib.hid (fun j p (hj : j < N) (hI : mtInv l kn 66 N op a j p) h => mt_step1 HKey.out hj hI h)
      have HIS2 := Lib.hid (fun j p (hj : j < N) (hI : mtInv l kn 66 N op a j p) a' i' h => mt_step2 HKey.out hj hI (a' := a') (i' := i') h)
      have HOK := Lib.hid hkk
      have f1 := hb4.frozen 1
      have c1 := hb4.cell 1
      have c0 := hb4.cell 0
      have c2 := hb4.cell 2
      simp only [List.getElem?_toArray, List.getElem?_cons_zero, List.getElem?_cons_succ] at c0 c1 c2
      clear hp hR hR' hkk
      have HXF := Lib.hid (hxe.trans hx4)
      have HX4 := Lib.hid hx4
      go_wp2_with fail
      have hbL : Blk (w4.setCell ⟨w2.heap.size, 1, none⟩ (.int .i64 1)) w2.heap.size 42 #[.int .i64 66, .int .i64 1, .int .i64 97] := by
        simpa using hb4.set_ 1 (.int .i64 1)
      have hxL : Ext w2 (w4.setCell ⟨w2.heap.size, 1, none⟩ (.int .i64 1)) := HX4.out.setCell (Nat.le_refl _) _
      clear c0 c1 c2 f1 hb4
      go_loopw [18, 66] (fun p i wr => ∃ j q : Nat, j ≤ N ∧ i = .int .i64 j ∧ p = .int .i64 q ∧ (q = 0 ∨ q < n) ∧ Hid (mtInv l kn 66 N op a j q) ∧ Blk wr w2.heap.size 42 #[.int .i64 66, .int .i64 1, .int .i64 97] ∧ Ext w2 wr) (fun _ i _ => N - (intOf i).toNat)
      case atStart => exact ⟨0, kn, by omega, rfl, rfl, by omega, HI0, hbL, hxL⟩
      case round =>
        clear hbL hxL
        obtain ⟨j, q, hj, rfl, rfl, hq, HI, hb, he⟩ := hrel
        have c0 := hb.cell 0
        have c1 := hb.cell 1
        have c2 := hb.cell 2
        simp only [List.getElem?_toArray, List.getElem?_cons_zero, List.getElem?_cons_succ] at c0 c1 c2
        by_cases hlt : j < N
        · have hC := Lib.hid (HGo.out q 1 _ he)
          clear HGo
          go_wp2_with fail
          refine hC.out.mono ?_
          rintro e w5 ⟨hp, he5⟩
          have hb5 := hb.ext he5
          have hx5 := he.trans he5
          have hokq : okM n q 66 1 := ⟨by omega, by omega, by omega, by omega, by omega, HOK.out⟩
          rcases go_says3 hokq hp with ⟨hR, rfl⟩ | ⟨a', i', hR, rfl⟩
          · have hS := HIS1.out j q hlt HI.out hR
            clear hp hR c0 c1 c2 hb
            first
              | (exfalso; exact hS.1 rfl)
              | (exfalso; exact hS.2 rfl)
              | (clear hS
                 go_wp2_with fail
                 go_ret
                 exact ⟨rfl, hxe.trans hx5⟩)
          · obtain ⟨hS1, hS2⟩ := HIS2.out j q hlt HI.out a' i' hR
            rw [hlen.out] at hS2
            have HS1 := Lib.hid hS1
            clear hp hR c0 c1 c2 hb hS1 hokq
            by_cases ha : a' < n
            · clear hS2
              go_wp2_with fail
              exact ⟨⟨j + 1, a', by omega, by go_num, rfl, by omega, HS1, hb5, hx5⟩, by simp [intOf] <;> omega⟩
            · first
                | (exfalso; have := hS2 (.inl rfl); omega)
                | (exfalso; have := hS2 (.inr rfl); omega)
                | (clear hS2
                   go_wp2_with fail
                   go_ret
                   exact ⟨rfl, hxe.trans hx5⟩)
        · obtain rfl : j = N := by omega
          obtain rfl := HIE.out q HI.out
          clear HGo c0 c1 c2
          go_wp2_with fail
          go_ret
          exact ⟨rfl, hxe.trans he⟩

set_option maxRecDepth 100000 in
set_option maxHeartbeats 4000000 in
theorem mt_w101 {A : Option Addr} {n c : Nat} {l : List Int} {k cnt : Int} {op : Bool} {w : World} (hl : Ints w A n c l) (wl : ∀ x ∈ l, (Lit.int .i64 x).wf = true) :
    Calls Try.prog 7 #[.slice A n c, .int .i64 k, .int .i64 101, .int .i64 cnt, .bool op] w fun e w' => e = .returned (.bool true) ∧ Ext w w' := by
  have HKey : Hid (mtKey 101) := Lib.hid (by unfold mtKey; omega)
  have hnc := hl.ncap
  have hcm := hl.nmax
  have hlen := Lib.hid hl.len
  have WL := Lib.hid wl
  unfold maxLen at hcm
  clear wl
  have hO := Lib.hid (of_ok "abc".toUTF8 w (by decide +kernel))
  have e0 : "abc".toUTF8 = ⟨#[97, 98, 99]⟩ := by decide +kernel
  rw [e0] at hO
  clear e0
  go_enter Try.func7, Try.ntmps7
  go_wp2_with fail
  refine hO.out.mono ?_
  rintro e w1 ⟨A1, c1, rfl, hA1, he1⟩
  clear hO
  have h2 : ByteArray.size ⟨#[97, 98, 99]⟩ = 3 := by decide +kernel
  rw [h2] at hA1 ⊢
  clear h2
  go_wp2_with fail
  have wA : ∀ x ∈ chars ⟨#[97, 98, 99]⟩, (Lit.int .i64 x).wf = true := by
    intro x hx
    unfold chars at hx
    obtain ⟨b, _, rfl⟩ := List.mem_map.1 hx
    have := b.toNat_lt
    simp [Lit.wf, IntKind.min, IntKind.max, IntKind.signed, IntKind.bits]
    omega
  have HR := Lib.hid (mgo_all (k := 0) (key := 108) (cnt := 2) (arg := 0) (op := false) hA1.ints wA)
  clear wA
  refine HR.out.mono ?_
  rintro e w2 ⟨hp, he2⟩
  have hE := lit_go hp
  subst hE
  have hxe := he1.trans he2
  have HGo := Lib.hid (fun (k' cnt' : Int) (w3 : World) (he3 : Ext w2 w3) => mgo_all (k := k') (key := 101) (cnt := cnt') (arg := 97) (op := op) ((hl.ext hxe).ext he3) WL.out)
  have hx3 := Ext.alloc w2 (.cells #[.int .i64 101, .int .i64 cnt, .int .i64 97] 42)
  have hb3 := Blk.new w2 42 #[.int .i64 101, .int .i64 cnt, .int .i64 97]
  have hws := hxe.hsize
  clear HR hp hA1 he1 he2 hl WL
  go_wp2_with fail
  refine (HGo.out k cnt _ hx3).mono ?_
  rintro e w4 ⟨hp, he4⟩
  have hx4 := hx3.trans he4
  have hb4 := hb3.ext he4
  clear hb3 hx3 he4
  rcases go_says2 hp with ⟨er, i, her, rfl⟩ | ⟨a, i, hok, hR, rfl⟩
  · clear hp
    go_wp2_with fail
    go_ret
    exact ⟨rfl, hxe.trans hx4⟩
  · by_cases hn1 : cnt < 1
    · clear hp hok hR
      go_wp2_with fail
      go_ret
      exact ⟨rfl, hxe.trans hx4⟩
    · obtain ⟨N, rfl⟩ := Int.eq_ofNat_of_zero_le (show 0 ≤ cnt by omega)
      obtain ⟨hn, hk0, hk1, _, hc1, hkk⟩ := hok
      obtain ⟨kn, rfl⟩ := Int.eq_ofNat_of_zero_le hk0
      have hN1 : 1 ≤ N := by omega
      rw [show (max 1 (N : Int)).toNat = N by omega] at hR
      have hR' : goR l kn 101 97 N op (some (a, i)) := hR
      have HI0 := Lib.hid (mt_start HKey.out hN1 hR')
      have HIE := Lib.hid (fun p => mt_end HKey.out hN1 hR' (p := p))
      have HIS1 := Lib.hid (fun j p (hj : j < N) (hI : mtInv l kn 101 N op a j p) h => mt_step1 HKey.out hj hI h)
      have HIS2 := Lib.hid (fun j p (hj : j < N) (hI : mtInv l kn 101 N op a j p) a' i' h => mt_step2 HKey.out hj hI (a' := a') (i' := i') h)
      have HOK := Lib.hid hkk
      have f1 := hb4.frozen 1
      have c1 := hb4.cell 1
      have c0 := hb4.cell 0
      have c2 := hb4.cell 2
      simp only [List.getElem?_toArray, List.getElem?_cons_zero, List.getElem?_cons_succ] at c0 c1 c2
      clear hp hR hR' hkk
      have HXF := Lib.hid (hxe.trans hx4)
      have HX4 := Lib.hid hx4
      go_wp2_with fail
      have hbL : Blk (w4.setCell ⟨w2.heap.size, 1, none⟩ (.int .i64 1)) w2.heap.size 42 #[.int .i64 101, .int .i64 1, .int .i64 97] := by
        simpa using hb4.set_ 1 (.int .i64 1)
      have hxL : Ext w2 (w4.setCell ⟨w2.heap.size, 1, none⟩ (.int .i64 1)) := HX4.out.setCell (Nat.le_refl _) _
      clear c0 c1 c2 f1 hb4
      go_loopw [18, 66] (fun p i wr => ∃ j q : Nat, j ≤ N ∧ i = .int .i64 j ∧ p = .int .i64 q ∧ (q = 0 ∨ q < n) ∧ Hid (mtInv l kn 101 N op a j q) ∧ Blk wr w2.heap.size 42 #[.int .i64 101, .int .i64 1, .int .i64 97] ∧ Ext w2 wr) (fun _ i _ => N - (intOf i).toNat)
      case atStart => exact ⟨0, kn, by omega, rfl, rfl, by omega, HI0, hbL, hxL⟩
      case round =>
        clear hbL hxL
        obtain ⟨j, q, hj, rfl, rfl, hq, HI, hb, he⟩ := hrel
        have c0 := hb.cell 0
        have c1 := hb.cell 1
        have c2 := hb.cell 2
        simp only [List.getElem?_toArray, List.getElem?_cons_zero, List.getElem?_cons_succ] at c0 c1 c2
        by_cases hlt : j < N
        · have hC := Lib.hid (HGo.out q 1 _ he)
          clear HGo
          go_wp2_with fail
          refine hC.out.mono ?_
          rintro e w5 ⟨hp, he5⟩
          have hb5 := hb.ext he5
          have hx5 := he.trans he5
          have hokq : okM n q 101 1 := ⟨by omega, by omega, by omega, by omega, by omega, HOK.out⟩
          rcases go_says3 hokq hp with ⟨hR, rfl⟩ | ⟨a', i', hR, rfl⟩
          · have hS := HIS1.out j q hlt HI.out hR
            clear hp hR c0 c1 c2 hb
            first
              | (exfalso; exact hS.1 rfl)
              | (exfalso; exact hS.2 rfl)
              | (clear hS
                 go_wp2_with fail
                 go_ret
                 exact ⟨rfl, hxe.trans hx5⟩)
          · obtain ⟨hS1, hS2⟩ := HIS2.out j q hlt HI.out a' i' hR
            rw [hlen.out] at hS2
            have HS1 := Lib.hid hS1
            clear hp hR c0 c1 c2 hb hS1 hokq
            by_cases ha : a' < n
            · clear hS2
              go_wp2_with fail
              exact ⟨⟨j + 1, a', by omega, by go_num, rfl, by omega, HS1, hb5, hx5⟩, by simp [intOf] <;> omega⟩
            · first
                | (exfalso; have := hS2 (.inl rfl); omega)
                | (exfalso; have := hS2 (.inr rfl); omega)
                | (clear hS2
                   go_wp2_with fail
                   go_ret
                   exact ⟨rfl, hxe.trans hx5⟩)
        · obtain rfl : j = N := by omega
          obtain rfl := HIE.out q HI.out
          clear HGo c0 c1 c2
          go_wp2_with fail
          go_ret
          exact ⟨rfl, hxe.trans he⟩

set_option maxRecDepth 100000 in
set_option maxHeartbeats 4000000 in
theorem mt_w69 {A : Option Addr} {n c : Nat} {l : List Int} {k cnt : Int} {op : Bool} {w : World} (hl : Ints w A n c l) (wl : ∀ x ∈ l, (Lit.int .i64 x).wf = true) :
    Calls Try.prog 7 #[.slice A n c, .int .i64 k, .int .i64 69, .int .i64 cnt, .bool op] w fun e w' => e = .returned (.bool true) ∧ Ext w w' := by
  have HKey : Hid (mtKey 69) := Lib.hid (by unfold mtKey; omega)
  have hnc := hl.ncap
  have hcm := hl.nmax
  have hlen := Lib.hid hl.len
  have WL := Lib.hid wl
  unfold maxLen at hcm
  clear wl
  have hO := Lib.hid (of_ok "abc".toUTF8 w (by decide +kernel))
  have e0 : "abc".toUTF8 = ⟨#[97, 98, 99]⟩ := by decide +kernel
  rw [e0] at hO
  clear e0
  go_enter Try.func7, Try.ntmps7
  go_wp2_with fail
  refine hO.out.mono ?_
  rintro e w1 ⟨A1, c1, rfl, hA1, he1⟩
  clear hO
  have h2 : ByteArray.size ⟨#[97, 98, 99]⟩ = 3 := by decide +kernel
  rw [h2] at hA1 ⊢
  clear h2
  go_wp2_with fail
  have wA : ∀ x ∈ chars ⟨#[97, 98, 99]⟩, (Lit.int .i64 x).wf = true := by
    intro x hx
    unfold chars at hx
    obtain ⟨b, _, rfl⟩ := List.mem_map.1 hx
    have := b.toNat_lt
    simp [Lit.wf, IntKind.min, IntKind.max, IntKind.signed, IntKind.bits]
    omega
  have HR := Lib.hid (mgo_all (k := 0) (key := 108) (cnt := 2) (arg := 0) (op := false) hA1.ints wA)
  clear wA
  refine HR.out.mono ?_
  rintro e w2 ⟨hp, he2⟩
  have hE := lit_go hp
  subst hE
  have hxe := he1.trans he2
  have HGo := Lib.hid (fun (k' cnt' : Int) (w3 : World) (he3 : Ext w2 w3) => mgo_all (k := k') (key := 69) (cnt := cnt') (arg := 97) (op := op) ((hl.ext hxe).ext he3) WL.out)
  have hx3 := Ext.alloc w2 (.cells #[.int .i64 69, .int .i64 cnt, .int .i64 97] 42)
  have hb3 := Blk.new w2 42 #[.int .i64 69, .int .i64 cnt, .int .i64 97]
  have hws := hxe.hsize
  clear HR hp hA1 he1 he2 hl WL
  go_wp2_with fail
  refine (HGo.out k cnt _ hx3).mono ?_
  rintro e w4 ⟨hp, he4⟩
  have hx4 := hx3.trans he4
  have hb4 := hb3.ext he4
  clear hb3 hx3 he4
  rcases go_says2 hp with ⟨er, i, her, rfl⟩ | ⟨a, i, hok, hR, rfl⟩
  · clear hp
    go_wp2_with fail
    go_ret
    exact ⟨rfl, hxe.trans hx4⟩
  · by_cases hn1 : cnt < 1
    · clear hp hok hR
      go_wp2_with fail
      go_ret
      exact ⟨rfl, hxe.trans hx4⟩
    · obtain ⟨N, rfl⟩ := Int.eq_ofNat_of_zero_le (show 0 ≤ cnt by omega)
      obtain ⟨hn, hk0, hk1, _, hc1, hkk⟩ := hok
      obtain ⟨kn, rfl⟩ := Int.eq_ofNat_of_zero_le hk0
      have hN1 : 1 ≤ N := by omega
      rw [show (max 1 (N : Int)).toNat = N by omega] at hR
      have hR' : goR l kn 69 97 N op (some (a, i)) := hR
      have HI0 := Lib.hid (mt_start HKey.out hN1 hR')
      have HIE := Lib.hid (fun p => mt_end HKey.out hN1 hR' (p := p))
      have HIS1 := Lib.hid (fun j p (hj : j < N) (hI : mtInv l kn 69 N op a j p) h => mt_step1 HKey.out hj hI h)
      have HIS2 := Lib.hid (fun j p (hj : j < N) (hI : mtInv l kn 69 N op a j p) a' i' h => mt_step2 HKey.out hj hI (a' := a') (i' := i') h)
      have HOK := Lib.hid hkk
      have f1 := hb4.frozen 1
      have c1 := hb4.cell 1
      have c0 := hb4.cell 0
      have c2 := hb4.cell 2
      simp only [List.getElem?_toArray, List.getElem?_cons_zero, List.getElem?_cons_succ] at c0 c1 c2
      clear hp hR hR' hkk
      have HXF := Lib.hid (hxe.trans hx4)
      have HX4 := Lib.hid hx4
      go_wp2_with fail
      have hbL : Blk (w4.setCell ⟨w2.heap.size, 1, none⟩ (.int .i64 1)) w2.heap.size 42 #[.int .i64 69, .int .i64 1, .int .i64 97] := by
        simpa using hb4.set_ 1 (.int .i64 1)
      have hxL : Ext w2 (w4.setCell ⟨w2.heap.size, 1, none⟩ (.int .i64 1)) := HX4.out.setCell (Nat.le_refl _) _
      clear c0 c1 c2 f1 hb4
      go_loopw [18, 66] (fun p i wr => ∃ j q : Nat, j ≤ N ∧ i = .int .i64 j ∧ p = .int .i64 q ∧ (q = 0 ∨ q < n) ∧ Hid (mtInv l kn 69 N op a j q) ∧ Blk wr w2.heap.size 42 #[.int .i64 69, .int .i64 1, .int .i64 97] ∧ Ext w2 wr) (fun _ i _ => N - (intOf i).toNat)
      case atStart => exact ⟨0, kn, by omega, rfl, rfl, by omega, HI0, hbL, hxL⟩
      case round =>
        clear hbL hxL
        obtain ⟨j, q, hj, rfl, rfl, hq, HI, hb, he⟩ := hrel
        have c0 := hb.cell 0
        have c1 := hb.cell 1
        have c2 := hb.cell 2
        simp only [List.getElem?_toArray, List.getElem?_cons_zero, List.getElem?_cons_succ] at c0 c1 c2
        by_cases hlt : j < N
        · have hC := Lib.hid (HGo.out q 1 _ he)
          clear HGo
          go_wp2_with fail
          refine hC.out.mono ?_
          rintro e w5 ⟨hp, he5⟩
          have hb5 := hb.ext he5
          have hx5 := he.trans he5
          have hokq : okM n q 69 1 := ⟨by omega, by omega, by omega, by omega, by omega, HOK.out⟩
          rcases go_says3 hokq hp with ⟨hR, rfl⟩ | ⟨a', i', hR, rfl⟩
          · have hS := HIS1.out j q hlt HI.out hR
            clear hp hR c0 c1 c2 hb
            first
              | (exfalso; exact hS.1 rfl)
              | (exfalso; exact hS.2 rfl)
              | (clear hS
                 go_wp2_with fail
                 go_ret
                 exact ⟨rfl, hxe.trans hx5⟩)
          · obtain ⟨hS1, hS2⟩ := HIS2.out j q hlt HI.out a' i' hR
            rw [hlen.out] at hS2
            have HS1 := Lib.hid hS1
            clear hp hR c0 c1 c2 hb hS1 hokq
            by_cases ha : a' < n
            · clear hS2
              go_wp2_with fail
              exact ⟨⟨j + 1, a', by omega, by go_num, rfl, by omega, HS1, hb5, hx5⟩, by simp [intOf] <;> omega⟩
            · first
                | (exfalso; have := hS2 (.inl rfl); omega)
                | (exfalso; have := hS2 (.inr rfl); omega)
                | (clear hS2
                   go_wp2_with fail
                   go_ret
                   exact ⟨rfl, hxe.trans hx5⟩)
        · obtain rfl : j = N := by omega
          obtain rfl := HIE.out q HI.out
          clear HGo c0 c1 c2
          go_wp2_with fail
          go_ret
          exact ⟨rfl, hxe.trans he⟩

set_option maxRecDepth 100000 in
set_option maxHeartbeats 4000000 in
theorem mt_w102 {A : Option Addr} {n c : Nat} {l : List Int} {k cnt : Int} {op : Bool} {w : World} (hl : Ints w A n c l) (wl : ∀ x ∈ l, (Lit.int .i64 x).wf = true) :
    Calls Try.prog 7 #[.slice A n c, .int .i64 k, .int .i64 102, .int .i64 cnt, .bool op] w fun e w' => e = .returned (.bool true) ∧ Ext w w' := by
  have HKey : Hid (mtKey 102) := Lib.hid (by unfold mtKey; omega)
  have hnc := hl.ncap
  have hcm := hl.nmax
  have hlen := Lib.hid hl.len
  have WL := Lib.hid wl
  unfold maxLen at hcm
  clear wl
  have hO := Lib.hid (of_ok "abc".toUTF8 w (by decide +kernel))
  have e0 : "abc".toUTF8 = ⟨#[97, 98, 99]⟩ := by decide +kernel
  rw [e0] at hO
  clear e0
  go_enter Try.func7, Try.ntmps7
  go_wp2_with fail
  refine hO.out.mono ?_
  rintro e w1 ⟨A1, c1, rfl, hA1, he1⟩
  clear hO
  have h2 : ByteArray.size ⟨#[97, 98, 99]⟩ = 3 := by decide +kernel
  rw [h2] at hA1 ⊢
  clear h2
  go_wp2_with fail
  have wA : ∀ x ∈ chars ⟨#[97, 98, 99]⟩, (Lit.int .i64 x).wf = true := by
    intro x hx
    unfold chars at hx
    obtain ⟨b, _, rfl⟩ := List.mem_map.1 hx
    have := b.toNat_lt
    simp [Lit.wf, IntKind.min, IntKind.max, IntKind.signed, IntKind.bits]
    omega
  have HR := Lib.hid (mgo_all (k := 0) (key := 108) (cnt := 2) (arg := 0) (op := false) hA1.ints wA)
  clear wA
  refine HR.out.mono ?_
  rintro e w2 ⟨hp, he2⟩
  have hE := lit_go hp
  subst hE
  have hxe := he1.trans he2
  have HGo := Lib.hid (fun (k' cnt' : Int) (w3 : World) (he3 : Ext w2 w3) => mgo_all (k := k') (key := 102) (cnt := cnt') (arg := 97) (op := op) ((hl.ext hxe).ext he3) WL.out)
  have hx3 := Ext.alloc w2 (.cells #[.int .i64 102, .int .i64 cnt, .int .i64 97] 42)
  have hb3 := Blk.new w2 42 #[.int .i64 102, .int .i64 cnt, .int .i64 97]
  have hws := hxe.hsize
  clear HR hp hA1 he1 he2 hl WL
  go_wp2_with fail
  refine (HGo.out k cnt _ hx3).mono ?_
  rintro e w4 ⟨hp, he4⟩
  have hx4 := hx3.trans he4
  have hb4 := hb3.ext he4
  clear hb3 hx3 he4
  rcases go_says2 hp with ⟨er, i, her, rfl⟩ | ⟨a, i, hok, hR, rfl⟩
  · clear hp
    go_wp2_with fail
    go_ret
    exact ⟨rfl, hxe.trans hx4⟩
  · by_cases hn1 : cnt < 1
    · clear hp hok hR
      go_wp2_with fail
      go_ret
      exact ⟨rfl, hxe.trans hx4⟩
    · obtain ⟨N, rfl⟩ := Int.eq_ofNat_of_zero_le (show 0 ≤ cnt by omega)
      obtain ⟨hn, hk0, hk1, _, hc1, hkk⟩ := hok
      obtain ⟨kn, rfl⟩ := Int.eq_ofNat_of_zero_le hk0
      have hN1 : 1 ≤ N := by omega
      rw [show (max 1 (N : Int)).toNat = N by omega] at hR
      have hR' : goR l kn 102 97 N op (some (a, i)) := hR
      have HI0 := Lib.hid (mt_start HKey.out hN1 hR')
      have HIE := Lib.hid (fun p => mt_end HKey.out hN1 hR' (p := p))
      have HIS1 := Lib.hid (fun j p (hj : j < N) (hI : mtInv l kn 102 N op a j p) h => mt_step1 HKey.out hj hI h)
      have HIS2 := Lib.hid (fun j p (hj : j < N) (hI : mtInv l kn 102 N op a j p) a' i' h => mt_step2 HKey.out hj hI (a' := a') (i' := i') h)
      have HOK := Lib.hid hkk
      have f1 := hb4.frozen 1
      have c1 := hb4.cell 1
      have c0 := hb4.cell 0
      have c2 := hb4.cell 2
      simp only [List.getElem?_toArray, List.getElem?_cons_zero, List.getElem?_cons_succ] at c0 c1 c2
      clear hp hR hR' hkk
      have HXF := Lib.hid (hxe.trans hx4)
      have HX4 := Lib.hid hx4
      go_wp2_with fail
      have hbL : Blk (w4.setCell ⟨w2.heap.size, 1, none⟩ (.int .i64 1)) w2.heap.size 42 #[.int .i64 102, .int .i64 1, .int .i64 97] := by
        simpa using hb4.set_ 1 (.int .i64 1)
      have hxL : Ext w2 (w4.setCell ⟨w2.heap.size, 1, none⟩ (.int .i64 1)) := HX4.out.setCell (Nat.le_refl _) _
      clear c0 c1 c2 f1 hb4
      go_loopw [18, 66] (fun p i wr => ∃ j q : Nat, j ≤ N ∧ i = .int .i64 j ∧ p = .int .i64 q ∧ (q = 0 ∨ q < n) ∧ Hid (mtInv l kn 102 N op a j q) ∧ Blk wr w2.heap.size 42 #[.int .i64 102, .int .i64 1, .int .i64 97] ∧ Ext w2 wr) (fun _ i _ => N - (intOf i).toNat)
      case atStart => exact ⟨0, kn, by omega, rfl, rfl, by omega, HI0, hbL, hxL⟩
      case round =>
        clear hbL hxL
        obtain ⟨j, q, hj, rfl, rfl, hq, HI, hb, he⟩ := hrel
        have c0 := hb.cell 0
        have c1 := hb.cell 1
        have c2 := hb.cell 2
        simp only [List.getElem?_toArray, List.getElem?_cons_zero, List.getElem?_cons_succ] at c0 c1 c2
        by_cases hlt : j < N
        · have hC := Lib.hid (HGo.out q 1 _ he)
          clear HGo
          go_wp2_with fail
          refine hC.out.mono ?_
          rintro e w5 ⟨hp, he5⟩
          have hb5 := hb.ext he5
          have hx5 := he.trans he5
          have hokq : okM n q 102 1 := ⟨by omega, by omega, by omega, by omega, by omega, HOK.out⟩
          rcases go_says3 hokq hp with ⟨hR, rfl⟩ | ⟨a', i', hR, rfl⟩
          · have hS := HIS1.out j q hlt HI.out hR
            clear hp hR c0 c1 c2 hb
            first
              | (exfalso; exact hS.1 rfl)
              | (exfalso; exact hS.2 rfl)
              | (clear hS
                 go_wp2_with fail
                 go_ret
                 exact ⟨rfl, hxe.trans hx5⟩)
          · obtain ⟨hS1, hS2⟩ := HIS2.out j q hlt HI.out a' i' hR
            rw [hlen.out] at hS2
            have HS1 := Lib.hid hS1
            clear hp hR c0 c1 c2 hb hS1 hokq
            by_cases ha : a' < n
            · clear hS2
              go_wp2_with fail
              exact ⟨⟨j + 1, a', by omega, by go_num, rfl, by omega, HS1, hb5, hx5⟩, by simp [intOf] <;> omega⟩
            · exfalso
              have h9 := hS2 (by simp)
              omega
        · obtain rfl : j = N := by omega
          obtain rfl := HIE.out q HI.out
          clear HGo c0 c1 c2
          go_wp2_with fail
          go_ret
          exact ⟨rfl, hxe.trans he⟩

set_option maxRecDepth 100000 in
set_option maxHeartbeats 4000000 in
theorem mt_w70 {A : Option Addr} {n c : Nat} {l : List Int} {k cnt : Int} {op : Bool} {w : World} (hl : Ints w A n c l) (wl : ∀ x ∈ l, (Lit.int .i64 x).wf = true) :
    Calls Try.prog 7 #[.slice A n c, .int .i64 k, .int .i64 70, .int .i64 cnt, .bool op] w fun e w' => e = .returned (.bool true) ∧ Ext w w' := by
  have HKey : Hid (mtKey 70) := Lib.hid (by unfold mtKey; omega)
  have hnc := hl.ncap
  have hcm := hl.nmax
  have hlen := Lib.hid hl.len
  have WL := Lib.hid wl
  unfold maxLen at hcm
  clear wl
  have hO := Lib.hid (of_ok "abc".toUTF8 w (by decide +kernel))
  have e0 : "abc".toUTF8 = ⟨#[97, 98, 99]⟩ := by decide +kernel
  rw [e0] at hO
  clear e0
  go_enter Try.func7, Try.ntmps7
  go_wp2_with fail
  refine hO.out.mono ?_
  rintro e w1 ⟨A1, c1, rfl, hA1, he1⟩
  clear hO
  have h2 : ByteArray.size ⟨#[97, 98, 99]⟩ = 3 := by decide +kernel
  rw [h2] at hA1 ⊢
  clear h2
  go_wp2_with fail
  have wA : ∀ x ∈ chars ⟨#[97, 98, 99]⟩, (Lit.int .i64 x).wf = true := by
    intro x hx
    unfold chars at hx
    obtain ⟨b, _, rfl⟩ := List.mem_map.1 hx
    have := b.toNat_lt
    simp [Lit.wf, IntKind.min, IntKind.max, IntKind.signed, IntKind.bits]
    omega
  have HR := Lib.hid (mgo_all (k := 0) (key := 108) (cnt := 2) (arg := 0) (op := false) hA1.ints wA)
  clear wA
  refine HR.out.mono ?_
  rintro e w2 ⟨hp, he2⟩
  have hE := lit_go hp
  subst hE
  have hxe := he1.trans he2
  have HGo := Lib.hid (fun (k' cnt' : Int) (w3 : World) (he3 : Ext w2 w3) => mgo_all (k := k') (key := 70) (cnt := cnt') (arg := 97) (op := op) ((hl.ext hxe).ext he3) WL.out)
  have hx3 := Ext.alloc w2 (.cells #[.int .i64 70, .int .i64 cnt, .int .i64 97] 42)
  have hb3 := Blk.new w2 42 #[.int .i64 70, .int .i64 cnt, .int .i64 97]
  have hws := hxe.hsize
  clear HR hp hA1 he1 he2 hl WL
  go_wp2_with fail
  refine (HGo.out k cnt _ hx3).mono ?_
  rintro e w4 ⟨hp, he4⟩
  have hx4 := hx3.trans he4
  have hb4 := hb3.ext he4
  clear hb3 hx3 he4
  rcases go_says2 hp with ⟨er, i, her, rfl⟩ | ⟨a, i, hok, hR, rfl⟩
  · clear hp
    go_wp2_with fail
    go_ret
    exact ⟨rfl, hxe.trans hx4⟩
  · by_cases hn1 : cnt < 1
    · clear hp hok hR
      go_wp2_with fail
      go_ret
      exact ⟨rfl, hxe.trans hx4⟩
    · obtain ⟨N, rfl⟩ := Int.eq_ofNat_of_zero_le (show 0 ≤ cnt by omega)
      obtain ⟨hn, hk0, hk1, _, hc1, hkk⟩ := hok
      obtain ⟨kn, rfl⟩ := Int.eq_ofNat_of_zero_le hk0
      have hN1 : 1 ≤ N := by omega
      rw [show (max 1 (N : Int)).toNat = N by omega] at hR
      have hR' : goR l kn 70 97 N op (some (a, i)) := hR
      have HI0 := Lib.hid (mt_start HKey.out hN1 hR')
      have HIE := Lib.hid (fun p => mt_end HKey.out hN1 hR' (p := p))
      have HIS1 := Lib.hid (fun j p (hj : j < N) (hI : mtInv l kn 70 N op a j p) h => mt_step1 HKey.out hj hI h)
      have HIS2 := Lib.hid (fun j p (hj : j < N) (hI : mtInv l kn 70 N op a j p) a' i' h => mt_step2 HKey.out hj hI (a' := a') (i' := i') h)
      have HOK := Lib.hid hkk
      have f1 := hb4.frozen 1
      have c1 := hb4.cell 1
      have c0 := hb4.cell 0
      have c2 := hb4.cell 2
      simp only [List.getElem?_toArray, List.getElem?_cons_zero, List.getElem?_cons_succ] at c0 c1 c2
      clear hp hR hR' hkk
      have HXF := Lib.hid (hxe.trans hx4)
      have HX4 := Lib.hid hx4
      go_wp2_with fail
      have hbL : Blk (w4.setCell ⟨w2.heap.size, 1, none⟩ (.int .i64 1)) w2.heap.size 42 #[.int .i64 70, .int .i64 1, .int .i64 97] := by
        simpa using hb4.set_ 1 (.int .i64 1)
      have hxL : Ext w2 (w4.setCell ⟨w2.heap.size, 1, none⟩ (.int .i64 1)) := HX4.out.setCell (Nat.le_refl _) _
      clear c0 c1 c2 f1 hb4
      go_loopw [18, 66] (fun p i wr => ∃ j q : Nat, j ≤ N ∧ i = .int .i64 j ∧ p = .int .i64 q ∧ (q = 0 ∨ q < n) ∧ Hid (mtInv l kn 70 N op a j q) ∧ Blk wr w2.heap.size 42 #[.int .i64 70, .int .i64 1, .int .i64 97] ∧ Ext w2 wr) (fun _ i _ => N - (intOf i).toNat)
      case atStart => exact ⟨0, kn, by omega, rfl, rfl, by omega, HI0, hbL, hxL⟩
      case round =>
        clear hbL hxL
        obtain ⟨j, q, hj, rfl, rfl, hq, HI, hb, he⟩ := hrel
        have c0 := hb.cell 0
        have c1 := hb.cell 1
        have c2 := hb.cell 2
        simp only [List.getElem?_toArray, List.getElem?_cons_zero, List.getElem?_cons_succ] at c0 c1 c2
        by_cases hlt : j < N
        · have hC := Lib.hid (HGo.out q 1 _ he)
          clear HGo
          go_wp2_with fail
          refine hC.out.mono ?_
          rintro e w5 ⟨hp, he5⟩
          have hb5 := hb.ext he5
          have hx5 := he.trans he5
          have hokq : okM n q 70 1 := ⟨by omega, by omega, by omega, by omega, by omega, HOK.out⟩
          rcases go_says3 hokq hp with ⟨hR, rfl⟩ | ⟨a', i', hR, rfl⟩
          · have hS := HIS1.out j q hlt HI.out hR
            clear hp hR c0 c1 c2 hb
            first
              | (exfalso; exact hS.1 rfl)
              | (exfalso; exact hS.2 rfl)
              | (clear hS
                 go_wp2_with fail
                 go_ret
                 exact ⟨rfl, hxe.trans hx5⟩)
          · obtain ⟨hS1, hS2⟩ := HIS2.out j q hlt HI.out a' i' hR
            rw [hlen.out] at hS2
            have HS1 := Lib.hid hS1
            clear hp hR c0 c1 c2 hb hS1 hokq
            by_cases ha : a' < n
            · clear hS2
              go_wp2_with fail
              exact ⟨⟨j + 1, a', by omega, by go_num, rfl, by omega, HS1, hb5, hx5⟩, by simp [intOf] <;> omega⟩
            · exfalso
              have h9 := hS2 (by simp)
              omega
        · obtain rfl : j = N := by omega
          obtain rfl := HIE.out q HI.out
          clear HGo c0 c1 c2
          go_wp2_with fail
          go_ret
          exact ⟨rfl, hxe.trans he⟩

theorem mt_walk {A : Option Addr} {n c : Nat} {l : List Int} {k key cnt : Int} {op : Bool} {w : World} (hl : Ints w A n c l) (wl : ∀ x ∈ l, (Lit.int .i64 x).wf = true) (hkey : mtKey key) :
    Calls Try.prog 7 #[.slice A n c, .int .i64 k, .int .i64 key, .int .i64 cnt, .bool op] w fun e w' => e = .returned (.bool true) ∧ Ext w w' := by
  rcases hkey with rfl | rfl | rfl | rfl | rfl | rfl | rfl | rfl
  · exact mt_w104 hl wl
  · exact mt_w108 hl wl
  · exact mt_w98 hl wl
  · exact mt_w66 hl wl
  · exact mt_w101 hl wl
  · exact mt_w69 hl wl
  · exact mt_w102 hl wl
  · exact mt_w70 hl wl

set_option maxRecDepth 100000 in
set_option maxHeartbeats 4000000 in
theorem mt_other {A : Option Addr} {n c : Nat} {l : List Int} {k key cnt : Int} {op : Bool} {w : World} (hkey : ¬ mtKey key) :
    Calls Try.prog 7 #[.slice A n c, .int .i64 k, .int .i64 key, .int .i64 cnt, .bool op] w fun e w' => e = .returned (.bool true) ∧ Ext w w' := by
  have hO := Lib.hid (of_ok "abc".toUTF8 w (by decide +kernel))
  have e0 : "abc".toUTF8 = ⟨#[97, 98, 99]⟩ := by decide +kernel
  rw [e0] at hO
  clear e0
  unfold mtKey at hkey
  simp only [not_or] at hkey
  obtain ⟨h1, h2, h3, h4, h5, h6, h7, h8⟩ := hkey
  have g1 : (key == 104) = false := by simpa using h1
  have g2 : (key == 108) = false := by simpa using h2
  have g3 : (key == 98) = false := by simpa using h3
  have g4 : (key == 66) = false := by simpa using h4
  have g5 : (key == 101) = false := by simpa using h5
  have g6 : (key == 69) = false := by simpa using h6
  have g7 : (key == 102) = false := by simpa using h7
  have g8 : (key == 70) = false := by simpa using h8
  clear h1 h2 h3 h4 h5 h6 h7 h8
  go_enter Try.func7, Try.ntmps7
  go_wp2_with fail
  refine hO.out.mono ?_
  rintro e w1 ⟨A1, c1, rfl, hA1, he1⟩
  clear hO
  have h2 : ByteArray.size ⟨#[97, 98, 99]⟩ = 3 := by decide +kernel
  rw [h2] at hA1 ⊢
  clear h2
  go_wp2_with fail
  have wA : ∀ x ∈ chars ⟨#[97, 98, 99]⟩, (Lit.int .i64 x).wf = true := by
    intro x hx
    unfold chars at hx
    obtain ⟨b, _, rfl⟩ := List.mem_map.1 hx
    have := b.toNat_lt
    simp [Lit.wf, IntKind.min, IntKind.max, IntKind.signed, IntKind.bits]
    omega
  have HR := Lib.hid (mgo_all (k := 0) (key := 108) (cnt := 2) (arg := 0) (op := false) hA1.ints wA)
  clear wA
  refine HR.out.mono ?_
  rintro e w2 ⟨hp, he2⟩
  have hE := lit_go hp
  subst hE
  have hxe := he1.trans he2
  clear HR hp hA1 he1 he2
  go_wp2_with fail
  go_ret
  exact ⟨rfl, hxe⟩

theorem motionTimes_walk {A : Option Addr} {n c : Nat} {l : List Int} {k key cnt : Int} {op : Bool} {w : World} (hl : Ints w A n c l) (wl : ∀ x ∈ l, (Lit.int .i64 x).wf = true) :
    Calls Try.prog 7 #[.slice A n c, .int .i64 k, .int .i64 key, .int .i64 cnt, .bool op] w fun e w' => e = .returned (.bool true) ∧ Ext w w' := by
  by_cases h : mtKey key
  · exact mt_walk hl wl h
  · exact mt_other (l := l) h
end Go.Proofs.Ytkjlgfokgpdliaa
