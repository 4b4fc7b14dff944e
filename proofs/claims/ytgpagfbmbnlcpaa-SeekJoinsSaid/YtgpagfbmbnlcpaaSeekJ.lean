/-
  In two lines joined: plain Lean; slices.Index, Contains at []int.
-/
import Derived.Test.YtgpagfbmbnlcpaaSeekU
import Derived.Test.YtgpagfbmbnlcpaaConcB
namespace Go.Proofs.Ytgpagfbmbnlcpaa
open Go.RowKit
set_option linter.unusedVariables false
set_option linter.unusedSimpArgs false

theorem allP_mem {p s : List Int} {z : Int} : z ∈ allP p s ↔ ∃ x : Nat, z = (x : Int) ∧ x < s.length + 1 - p.length ∧ occ p s x := by
  unfold allP posl
  rw [List.mem_map]
  constructor
  · rintro ⟨x, hx, rfl⟩
    obtain ⟨h1, h2⟩ := List.mem_filter.1 hx
    exact ⟨x, rfl, List.mem_range.1 h1, by simpa using h2⟩
  · rintro ⟨x, rfl, h1, h2⟩
    exact ⟨x, List.mem_filter.2 ⟨List.mem_range.2 h1, by simpa using h2⟩, rfl⟩
theorem gI_app_left {s t : List Int} {i : Nat} (h : i < s.length) : gI (s ++ t) i = gI s i := by
  unfold gI; rw [List.getElem?_append_left h]
theorem gI_app_right {s t : List Int} {i : Nat} (h : s.length ≤ i) : gI (s ++ t) i = gI t (i - s.length) := by
  unfold gI; rw [List.getElem?_append_right h]
theorem occ_left {p s t : List Int} {x : Nat} (h : x + p.length ≤ s.length) : occ p (s ++ t) x ↔ occ p s x := by
  unfold occ
  constructor
  · intro h1 j hj; rw [h1 j hj, gI_app_left (by omega)]
  · intro h1 j hj; rw [h1 j hj, gI_app_left (by omega)]
theorem occ_right {p s t : List Int} {x : Nat} (h : s.length ≤ x) : occ p (s ++ t) x ↔ occ p t (x - s.length) := by
  unfold occ
  constructor
  · intro h1 j hj; rw [h1 j hj, gI_app_right (by omega)]; congr 1; omega
  · intro h1 j hj; rw [h1 j hj, gI_app_right (by omega)]; congr 1; omega
/-- What stands in the joined line, in one part. -/
theorem join_left {p s t : List Int} {z : Int} (h : z ∈ allP p (s ++ t)) (hz : z + p.length ≤ s.length) : z ∈ allP p s := by
  obtain ⟨x, rfl, h1, h2⟩ := allP_mem.1 h
  exact allP_mem.2 ⟨x, rfl, by omega, (occ_left (by omega)).1 h2⟩
theorem join_right {p s t : List Int} {z : Int} (h : z ∈ allP p (s ++ t)) (hz : (s.length : Int) ≤ z) : z - s.length ∈ allP p t := by
  obtain ⟨x, rfl, h1, h2⟩ := allP_mem.1 h
  rw [List.length_append] at h1
  exact allP_mem.2 ⟨x - s.length, by omega, by omega, (occ_right (by omega)).1 h2⟩
theorem of_left {p s t : List Int} {z : Int} (hp : 0 < p.length) (h : z ∈ allP p s) : z ∈ allP p (s ++ t) := by
  obtain ⟨x, rfl, h1, h2⟩ := allP_mem.1 h
  exact allP_mem.2 ⟨x, rfl, by rw [List.length_append]; omega, (occ_left (by omega)).2 h2⟩
theorem of_right {p s t : List Int} {z : Int} (hp : 0 < p.length) (h : z ∈ allP p t) : z + s.length ∈ allP p (s ++ t) := by
  obtain ⟨x, rfl, h1, h2⟩ := allP_mem.1 h
  exact allP_mem.2 ⟨x + s.length, by omega, by rw [List.length_append]; omega, (occ_right (by omega)).2 (by rw [Nat.add_sub_cancel]; exact h2)⟩
theorem mem_gI {l : List Int} {k : Nat} (h : k < l.length) : gI l k ∈ l := by
  unfold gI; rw [List.getElem?_eq_getElem h]; exact List.getElem_mem h
theorem gI_mem {l : List Int} {z : Int} (h : z ∈ l) : ∃ k, k < l.length ∧ gI l k = z := by
  obtain ⟨k, hk, e⟩ := List.mem_iff_getElem.1 h
  exact ⟨k, hk, by unfold gI; rw [List.getElem?_eq_getElem hk]; exact e⟩

set_option maxRecDepth 20000 in
set_option maxHeartbeats 2000000 in
theorem index_ok {l : List Int} {A : Option Addr} {n c : Nat} {v : Int} {w : World} (hl : Ints w A n c l) :
    Calls Try.prog 20 #[.slice A n c, .int .i64 v] w fun e w' => (∃ z : Int, e = .returned (.int .i64 z) ∧ -1 ≤ z ∧ z ≤ n ∧ (0 ≤ z ↔ v ∈ l)) ∧ Ext w w' := by
  have hlen := Lib.hid hl.len
  have hnc := hl.ncap
  have hcm := hl.nmax
  unfold maxLen at hcm
  go_enter Try.func20, Try.ntmps20
  go_wp2_with fail
  go_loopw [8] (fun i wr => ∃ k : Nat, k ≤ n ∧ i = .int .i64 k ∧ Hid (∀ j, j < k → gI l j ≠ v) ∧ Ext w wr) (fun i _ => n - (intOf i).toNat)
  case atStart => exact ⟨0, by omega, rfl, Lib.hid (fun j h => absurd h (by omega)), Ext.refl _⟩
  case round =>
    obtain ⟨k, hk, rfl, HN, he⟩ := hrel
    by_cases hlt : k < n
    · obtain ⟨ad, rfl, hc⟩ := hl.at_ hlt
      have c1 := he.cell (hc k hlt)
      have HM : Hid (gI l k ∈ l) := Lib.hid (mem_gI (by rw [hlen.out]; exact hlt))
      have HS : Hid (gI l k ≠ v → ∀ j, j < k + 1 → gI l j ≠ v) := Lib.hid (fun h j hj => by
        rcases Nat.lt_or_ge j k with h1 | h1
        · exact HN.out j h1
        · rw [show j = k by omega]; exact h)
      clear hc
      generalize gI l k = z at *
      by_cases hz : v = z
      · have b1 : (v == z) = true := by simpa using hz
        have HZ := Lib.hid hz
        clear hz
        go_wp2_with fail
        go_ret
        exact ⟨⟨k, rfl, by omega, by omega, ⟨fun _ => by rw [HZ.out]; exact HM.out, fun _ => by omega⟩⟩, he⟩
      · have b1 : (v == z) = false := by simpa using hz
        have HN2 := Lib.hid (HS.out (fun e => hz e.symm))
        clear hz HS HM
        go_wp2_with fail
        go_roundw
        case rel => exact ⟨k + 1, by omega, by go_num, HN2, he⟩
        case measure => simp [intOf]; omega
    · obtain rfl : k = n := by omega
      have HM : Hid (v ∉ l) := Lib.hid (fun h => by
        obtain ⟨j, hj, e⟩ := gI_mem h
        exact HN.out j (by rw [← hlen.out]; exact hj) e)
      go_wp2_with fail
      go_ret
      exact ⟨⟨-1, rfl, by omega, by omega, ⟨fun h => by omega, fun h => absurd h HM.out⟩⟩, he⟩
set_option maxHeartbeats 1000000 in
theorem contains_yes {l : List Int} {A : Option Addr} {n c : Nat} {v : Int} {w : World} (hl : Ints w A n c l) (h : v ∈ l) :
    Calls Try.prog 16 #[.slice A n c, .int .i64 v] w fun e w' => e = .returned (.bool true) ∧ Ext w w' := by
  have HC := Lib.hid (index_ok (v := v) hl)
  have HM := Lib.hid h
  clear h
  go_enter Try.func16, Try.ntmps16
  go_wp2_with fail
  refine HC.out.mono ?_
  rintro e w1 ⟨⟨z, rfl, h1, h2, h3⟩, he⟩
  have h4 := h3.2 HM.out
  clear h3 HC
  go_wp2_with fail
  go_ret
  exact ⟨by first | rfl | simp [h4], he⟩
end Go.Proofs.Ytgpagfbmbnlcpaa
