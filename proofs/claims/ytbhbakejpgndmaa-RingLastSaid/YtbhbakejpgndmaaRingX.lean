/-
  Len, At, List of the ring of strings, slices.Equal at []string: the walks.
-/
import Derived.Test.YtbhbakejpgndmaaRingW
import Derived.Lib.Strings
import Derived.WideShapes
namespace Go.Proofs.Ytbhbakejpgndmaa
open Go.RowKit
set_option linter.unusedVariables false
set_option linter.unusedSimpArgs false

set_option maxHeartbeats 1000000 in
theorem ringLen_ok {g s n f z : Nat} {ss : List ByteArray} {w : World} (h : RingAt w g s n f z ss) :
    Calls Try.prog 17 #[.pointer (some ⟨g, 0, none⟩)] w fun e w' => e = .returned (.int .i64 z) ∧ w = w' := by
  have k2 := h.1.cell 2
  simp only [List.getElem?_toArray, List.getElem?_cons_zero, List.getElem?_cons_succ] at k2
  clear h
  go_enter Try.func17, Try.ntmps17
  go_wp2_with fail
  go_ret
  exact ⟨rfl, rfl⟩

set_option maxHeartbeats 2000000 in
theorem ringAt_ok {g s n f z k : Nat} {ss : List ByteArray} {w : World} (h : RingAt w g s n f z ss) (hl : ss.length = n) (hz : z ≤ n) (hf : f < n) (hn : n ≤ 65536) (hk : k < z) :
    Calls Try.prog 40 #[.pointer (some ⟨g, 0, none⟩), .int .i64 k] w fun e w' => e = .returned (.tuple #[.string (gS ss ((f + k) % n)), .bool true]) ∧ Ext w w' := by
  have k0 := h.1.cell 0
  have k1 := h.1.cell 1
  have k2 := h.1.cell 2
  simp only [List.getElem?_toArray, List.getElem?_cons_zero, List.getElem?_cons_succ] at k0 k1 k2
  obtain ⟨m, hm⟩ : ∃ m, m = f + k := ⟨_, rfl⟩
  obtain ⟨p, hp⟩ : ∃ p, p = m % n := ⟨_, rfl⟩
  have hpn : p < n := by rw [hp]; exact Nat.mod_lt _ (by omega)
  have hw1 : IntKind.i64.wrap ((f : Int) + (k : Int)) = (m : Int) := by rw [IntWalk.i64_in _ (by omega)]; omega
  have hw2 : Int.tmod (m : Int) (n : Int) = (p : Int) := by rw [hp]; rfl
  have cp : w.cell? ⟨s, p, none⟩ = some (.string (gS ss p)) := by
    rw [h.2.1.cell p]; simp [gS, show p < ss.length by omega]
  have HM := Lib.hid (And.intro hm hp)
  clear h hl hm hp
  go_enter Try.func40, Try.ntmps40
  go_wp2_with fail
  go_quiet (fail)
  go_wp2_with fail
  go_ret2
  exact ⟨by rw [← HM.out.1, ← HM.out.2]; rfl, Ext.drewN _ _⟩

/-- What the ring holds, in order. -/
def ringL (ss : List ByteArray) (n f z : Nat) : List ByteArray := (List.range z).map fun k => gS ss ((f + k) % n)
theorem ringL_len (ss : List ByteArray) (n f z : Nat) : (ringL ss n f z).length = z := by simp [ringL]
theorem ringL_take {ss : List ByteArray} {n f z k : Nat} (h : k < z) : (ringL ss n f z).take (k + 1) = (ringL ss n f z).take k ++ [gS ss ((f + k) % n)] := by
  rw [List.take_succ_eq_append_getElem (by rw [ringL_len]; exact h)]
  simp [ringL]

set_option maxRecDepth 20000 in
set_option maxHeartbeats 2000000 in
theorem ringList_ok {g s n f z : Nat} {ss : List ByteArray} {w : World} (h : RingAt w g s n f z ss) (hl : ss.length = n) (hz : z ≤ n) (hf : f < n ∨ n = 0) (hn : n ≤ 65536) :
    Calls Try.prog 19 #[.pointer (some ⟨g, 0, none⟩)] w fun e w' => ∃ A c, e = .returned (.slice A z c) ∧ Strs w' A z c (ringL ss n f z) ∧ Ext w w' := by
  obtain ⟨i0, hi, hz0, hz1, hz2⟩ := info_parts info_string
  have hmk : ∀ u : World, (Instr.makeSlice 30 (.int .i64 0) (.int .i64 (z : Int))).run Try.prog u =
      .ok (.slice (some ⟨u.heap.size, 0, none⟩) 0 z) (u.alloc (.cells (madeCells #[.string .empty] z) 9)) := fun u => by
    have h := run_make (P := Try.prog) u 30 9 i0 (.string .empty) Try.underlying30 hi hz0 .i64 .i64 0 (z : Int) (by omega) (by omega) (by rw [hz2]; omega) (by omega)
    simpa [hz1, Value.cells] using h
  have k2 := h.1.cell 2
  simp only [List.getElem?_toArray, List.getElem?_cons_zero, List.getElem?_cons_succ] at k2
  have hown0 : Own (w.alloc (.cells (madeCells #[.string .empty] z) 9)) w.heap.size 9 1 (some ⟨w.heap.size, 0, none⟩) 0 z [] :=
    World.ownsRow_made w _ _ (Nat.le_refl _) (by unfold maxLen; omega) (by simp [size_madeCells])
  have HL := Lib.hid hl
  have HR := Lib.hid h
  have k3 : (w.alloc (.cells (madeCells #[.string .empty] z) 9)).cell? ⟨g, 2, none⟩ = some (.int .i64 z) := (Ext.alloc w _).cell k2
  clear h hl
  go_enter Try.func19, Try.ntmps19
  have HI := Lib.hid hi
  clear hi
  go_wp2_with fail
  go_loopw [3, 16] (fun v i wr => ∃ (k : Nat) (A : Option Addr) (c : Nat), k ≤ z ∧ i = .int .i64 k ∧ v = .slice A k c ∧ OwnS wr w.heap.size A k c ((ringL ss n f z).take k) ∧ Ext w wr) (fun _ i _ => z - (intOf i).toNat)
  case atStart => exact ⟨0, _, z, by omega, rfl, rfl, hown0, Ext.alloc _ _⟩
  case round =>
    clear hown0 hmk
    obtain ⟨k, A, c, hk, rfl, rfl, hown, he⟩ := hrel
    by_cases hlt : k < z
    · have HC := Lib.hid (ringAt_ok (HR.out.ext he) HL.out hz (by omega) hn hlt)
      go_wp2_with fail
      refine HC.out.mono ?_
      rintro e w1 ⟨rfl, he1⟩
      have hown1 := Own.ext hown he1
      have he2 := he.trans he1
      have HT := Lib.hid (ringL_take (ss := ss) (n := n) (f := f) hlt)
      clear HC hown he he1
      go_wp2_with (at_builtin; refine wpList_push rfl (.tmp 25) (.tmp 27) 30 rfl w w.heap.size 9 i0 (.string .empty) 1 16 Try.underlying30 HI.out hz0 hz1 hz2 rfl (by decide) A k c _ rfl hown1 #[.string (gS ss ((f + k) % n))] rfl ?_ rfl ?_ ?_ he2 (Nat.le_refl _) he2.hsize ?_)
      · rfl
      · unfold maxLen; omega
      · omega
      · intro A' c' w2 hown' _ _ he'
        have hown2 : OwnS w2 w.heap.size A' (k + 1) c' ((ringL ss n f z).take (k + 1)) := by
          rw [HT.out]; simpa [OwnS] using hown'
        clear hown1 hown' he2 HT
        go_wp2_with fail
        go_roundw
        case rel => exact ⟨k + 1, A', c', by omega, by go_num, rfl, hown2, he'⟩
        case measure => simp [intOf]; omega
    · obtain rfl : k = z := by omega
      go_wp2_with fail
      go_ret
      exact ⟨A, c, rfl, by rw [List.take_of_length_le (by rw [ringL_len]; omega)] at hown; exact hown.strs, he⟩

/-- Are two lists one? Behind a name. -/
def eqS (l m : List ByteArray) : Bool := decide (l = m)
theorem eqS_true {l m : List ByteArray} : eqS l m = true ↔ l = m := by simp [eqS]
theorem eqS_false {l m : List ByteArray} : eqS l m = false ↔ l ≠ m := by simp [eqS]
theorem toList_one {a b : ByteArray} (h : a.toList = b.toList) : a = b := by
  rw [Lib.toList_data, Lib.toList_data] at h
  exact Go.WideShapes.bytes_inj h
theorem takeS_eq_succ {l m : List ByteArray} {n k : Nat} (hl : l.length = n) (hm : m.length = n) (hk : k < n) (h : l.take k = m.take k) (he : gS l k = gS m k) : l.take (k + 1) = m.take (k + 1) := by
  have h1 : k < l.length := by omega
  have h2 : k < m.length := by omega
  rw [List.take_succ_eq_append_getElem h1, List.take_succ_eq_append_getElem h2, h]
  simp [gS, h1, h2] at he
  rw [he]
theorem takeS_eq_all {l m : List ByteArray} {n : Nat} (hl : l.length = n) (hm : m.length = n) (h : l.take n = m.take n) : l = m := by
  rwa [List.take_of_length_le (by omega), List.take_of_length_le (by omega)] at h

set_option maxHeartbeats 1000000 in
theorem equalS_ok {A B : Option Addr} {n c m d : Nat} {l l' : List ByteArray} {w : World} (hl : Strs w A n c l) (hl' : Strs w B m d l') :
    Calls Try.prog 18 #[.slice A n c, .slice B m d] w fun e w' => e = .returned (.bool (eqS l l')) ∧ ∃ k, w' = w.drewN k := by
  have h1 := hl.ncap
  have h2 := hl.nmax
  have h3 := hl'.ncap
  have h4 := hl'.nmax
  have e1 := Lib.hid hl.len
  have e2 := Lib.hid hl'.len
  unfold maxLen at h2 h4
  by_cases hnm : n = m
  · subst hnm
    have hne : ((n : Int) != (n : Int)) = false := by simp
    go_enter Try.func18, Try.ntmps18
    go_wp2_with fail
    go_loopw [13] (fun i wr => ∃ k : Nat, k ≤ n ∧ i = .int .i64 k ∧ Hid (l.take k = l'.take k) ∧ ∃ q, wr = w.drewN q) (fun i _ => n - (intOf i).toNat)
    case atStart => exact ⟨0, by omega, rfl, rfl, 0, rfl⟩
    case round =>
      obtain ⟨k, hk, rfl, ht, q, rfl⟩ := hrel
      by_cases hlt : k < n
      · obtain ⟨a1, rfl, hc1⟩ := hl.at_ hlt
        obtain ⟨a2, rfl, hc2⟩ := hl'.at_ hlt
        have c1 := hc1 k hlt
        have c2 := hc2 k hlt
        clear hc1 hc2
        by_cases heq : gS l k = gS l' k
        · have b1 : ((gS l k).toList == (gS l' k).toList) = true := by simpa using congrArg ByteArray.toList heq
          have HN := Lib.hid heq
          clear heq
          go_wp2_with fail
          go_quiet (fail)
          go_wp2_with fail
          go_roundw
          case rel => exact ⟨k + 1, by omega, by go_num, takeS_eq_succ e1.out e2.out hlt ht.out HN.out, q + nq, rfl⟩
          case measure => simp [intOf]; omega
        · have b1 : ((gS l k).toList == (gS l' k).toList) = false := by simpa using fun e => heq (toList_one e)
          have HN := Lib.hid heq
          clear heq
          go_wp2_with fail
          go_quiet (fail)
          go_wp2_with fail
          go_ret
          exact ⟨ret_bool (eqS_false.2 (fun e => HN.out (by rw [e]))).symm, _, drew2 _ _ _⟩
      · obtain rfl : k = n := by omega
        go_wp2_with fail
        go_ret
        exact ⟨ret_bool (eqS_true.2 (takeS_eq_all e1.out e2.out ht.out)).symm, _, rfl⟩
  · have hne : ((n : Int) != (m : Int)) = true := by simp; omega
    have hf : eqS l l' = false := eqS_false.2 (fun e => hnm (by rw [← e1.out, ← e2.out, e]))
    go_enter Try.func18, Try.ntmps18
    go_wp2_with fail
    go_ret
    exact ⟨ret_bool hf.symm, 0, rfl⟩
end Go.Proofs.Ytbhbakejpgndmaa
