/-
  seek.Next from the beginning, hist.fits: the walks.
-/
import Derived.Test.YtbhbakejpgndmaaSeekA
import Derived.Test.YtbhbakejpgndmaaEq
import Derived.Test.YtbhbakejpgndmaaCut
namespace Go.Proofs.Ytbhbakejpgndmaa
open Go.RowKit
set_option linter.unusedVariables false
set_option linter.unusedSimpArgs false

/-- Does a line have a pattern? -/
def fitsB (p l : List Int) : Bool := if gI p 0 = 94 then eqB (p.drop 1) (l.take (p.length - 1)) && decide (p.length - 1 ≤ l.length) else decide (allP p l ≠ [])

/-- What Next answers. -/
def NextP (p s : List Int) (e : Ending) : Prop := ∃ z x : Int, e = .returned (.tuple #[.int .i64 z, .int .i64 x]) ∧ (x = if allP p s = [] then 6 else 0)

theorem posl_pos (p s : List Int) (i j : Nat) : 0 ≤ gI (posl p s i) j := by
  unfold gI posl
  rw [List.getElem?_map]
  cases ((List.range (i + 1 - p.length)).filter fun x => decide (occ p s x))[j]? with
  | none => simp
  | some x => simp

set_option maxHeartbeats 2000000 in
theorem next_ok {p s : List Int} {A B : Option Addr} {n m c d : Nat} {w : World} (hp : Ints w A n c p) (hs : Ints w B m d s) (hn : n ≤ 4096) (h0 : 0 < n) (hm : m ≤ 4096) :
    Calls Try.prog 55 #[.slice A n c, .slice B m d, .int .i64 0] w fun e w' => NextP p s e ∧ Ext w w' := by
  have HA := Lib.hid (all_some hp hs hn h0 hm)
  clear hp hs
  go_enter Try.func55, Try.ntmps55
  go_wp2_with fail
  refine HA.out.mono ?_
  rintro e w1 ⟨C, q, y, rfl, hown, he1⟩
  have hI := Lib.hid hown.ints
  have hX := Lib.hid he1
  have hql := Lib.hid hown.ints.len
  have hq0 := hI.out.ncap
  have hq1 := hI.out.nmax
  unfold maxLen at hq1
  clear HA hown he1
  by_cases hz : 0 < q
  · have HN : Hid (allP p s ≠ []) := Lib.hid (fun e => by have := hql.out; rw [e] at this; simp at this; omega)
    obtain ⟨ca, rfl, hc⟩ := hI.out.at_ hz
    have c0 := hc 0 hz
    have hpos : 0 ≤ gI (allP p s) 0 := posl_pos _ _ _ _
    clear hc
    rw [add_nought] at c0
    go_wp2_with fail
    go_loopw [23] (fun i wr => i = .int .i64 0 ∧ w1 = wr) (fun _ _ => 0)
    case atStart => exact ⟨rfl, rfl⟩
    case round =>
      obtain ⟨rfl, rfl⟩ := hrel
      go_wp2_with fail
      go_ret2
      exact ⟨⟨_, _, rfl, by rw [if_neg HN.out]⟩, hX.out⟩
  · obtain rfl : q = 0 := by omega
    have HN : Hid (allP p s = []) := Lib.hid (List.eq_nil_of_length_eq_zero hql.out)
    go_wp2_with fail
    go_loopw [23] (fun i wr => i = .int .i64 0 ∧ w1 = wr) (fun _ _ => 0)
    case atStart => exact ⟨rfl, rfl⟩
    case round =>
      obtain ⟨rfl, rfl⟩ := hrel
      go_wp2_with fail
      go_ret2
      exact ⟨⟨_, _, rfl, by rw [if_pos HN.out]⟩, hX.out⟩

set_option maxHeartbeats 2000000 in
theorem fits_ok {p s : List Int} {A B : Option Addr} {n m c d : Nat} {w : World} (hp : Ints w A n c p) (hs : Ints w B m d s) (hn : n ≤ 4096) (h0 : 0 < n) (hm : m ≤ 4096) :
    Calls Try.prog 52 #[.slice A n c, .slice B m d] w fun e w' => e = .returned (.bool (fitsB p s)) ∧ Ext w w' := by
  have HP := Lib.hid hp
  have HS := Lib.hid hs
  have hpl := Lib.hid hp.len
  have hsl := Lib.hid hs.len
  have hq0 := hp.ncap
  have hq1 := hp.nmax
  have hr0 := hs.ncap
  have hr1 := hs.nmax
  unfold maxLen at hq1 hr1
  obtain ⟨ca, rfl, hc⟩ := hp.at_ h0
  have c0 := hc 0 h0
  rw [add_nought] at c0
  clear hc hp hs
  by_cases hk : gI p 0 = 94
  · have e1 : (gI p 0 == 94) = true := by simpa using hk
    have HK := Lib.hid hk
    have hcut := run_tailA (some ca) n c 1 (by omega)
    clear hk
    have HT := Lib.hid (HP.out.tailA (a := 1) (by omega))
    have hc1 : c = 1 ∨ c ≠ 1 := by omega
    by_cases hle : n - 1 ≤ m
    · have HF : Hid (fitsB p s = eqB (p.drop 1) (s.take (n - 1))) := Lib.hid (by
        unfold fitsB
        rw [if_pos HK.out, hpl.out, hsl.out, decide_eq_true hle, Bool.and_true])
      have HQ := Lib.hid (equal_ext HT.out (HS.out.front hle))
      have hle2 : ((n - 1 : Nat) : Int) ≤ (m : Int) := by omega
      clear HT hpl hsl
      rcases hc1 with rfl | hc1
      · obtain rfl : n = 1 := by omega
        have HQ2 : Hid (Calls Try.prog 27 #[.slice (some ca) 0 0, .slice B 0 d] w fun e w' => e = .returned (.bool (eqB (p.drop 1) (s.take (1 - 1)))) ∧ Ext w w') := HQ
        clear HQ hcut
        go_enter Try.func52, Try.ntmps52
        go_wp2_with fail
        refine HQ2.out.mono ?_
        rintro e w1 ⟨rfl, he1⟩
        clear HQ2
        go_wp2_with fail
        go_ret
        refine ⟨ret_bool (a := eqB p.tail []) ?_, he1⟩
        rw [HF.out]
        simp
      · have HQ2 : Hid (Calls Try.prog 27 #[.slice (some ⟨ca.block, ca.off + 1, none⟩) (n - 1) (c - 1), .slice B (n - 1) d] w fun e w' => e = .returned (.bool (eqB (p.drop 1) (s.take (n - 1)))) ∧ Ext w w') := Lib.hid (by
          have := HQ.out
          unfold cutA at this
          rw [if_neg hc1] at this
          exact this)
        clear HQ hcut
        go_enter Try.func52, Try.ntmps52
        go_wp2_with fail
        refine HQ2.out.mono ?_
        rintro e w1 ⟨rfl, he1⟩
        clear HQ2
        go_wp2_with fail
        go_ret
        refine ⟨ret_bool (a := eqB p.tail (List.take (n - 1) s)) ?_, he1⟩
        rw [HF.out]
        simp
    · have HF : Hid (fitsB p s = false) := Lib.hid (by
        unfold fitsB
        rw [if_pos HK.out, hpl.out, hsl.out, decide_eq_false hle, Bool.and_false])
      have hle2 : m < n - 1 := by omega
      clear hpl hsl hle HT hcut
      rcases hc1 with rfl | hc1
      · omega
      · go_enter Try.func52, Try.ntmps52
        go_wp2_with fail
        go_ret
        refine ⟨ret_bool (a := false) ?_, Ext.refl _⟩
        rw [HF.out]
  · have e1 : (gI p 0 == 94) = false := by simpa using hk
    have HN := Lib.hid (next_ok HP.out HS.out hn h0 hm)
    have HF : Hid (fitsB p s = decide (allP p s ≠ [])) := Lib.hid (by unfold fitsB; rw [if_neg hk])
    clear hk hpl hsl
    go_enter Try.func52, Try.ntmps52
    go_wp2_with fail
    refine HN.out.mono ?_
    rintro e w1 ⟨⟨z, x, rfl, hx⟩, he1⟩
    have HX := Lib.hid hx
    clear HN hx
    go_wp2_with fail
    go_ret
    refine ⟨ret_bool ?_, he1⟩
    rw [HF.out, HX.out]
    by_cases h : allP p s = [] <;> simp [h]
end Go.Proofs.Ytbhbakejpgndmaa
