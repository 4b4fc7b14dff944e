/-
  Edits in memory; the walks of splice.Check, Apply.
-/
import Derived.Test.YtmhgndjmcignjaaZSplM
import Derived.Test.YtmhgndjmcignjaaZJ1
import Derived.IntWalk

namespace Go.Proofs.Ytmhgndjmcignjaa
open Go.RowKit
set_option linter.unusedVariables false
set_option linter.unusedSimpArgs false

/-- The k-th splice. -/
def gE (e : List Spl) (k : Nat) : Spl := e[k]?.getD ⟨0, 0, []⟩
/-- Splices that lie one behind the other. -/
def Edits (w : World) (xs : List Value) (e : List Spl) : Prop :=
  xs.length = e.length * 3 ∧ ∀ i, i < e.length → ∃ B m d, xs[i * 3]? = some (.int .i64 (gE e i).f) ∧ xs[i * 3 + 1]? = some (.int .i64 (gE e i).t) ∧ xs[i * 3 + 2]? = some (.slice B m d) ∧ Ints w B m d (gE e i).x ∧ (B = none → d = 0)
/-- The slice reads as this edit. -/
def EditAt (w : World) (A : Option Addr) (n c : Nat) (e : List Spl) : Prop := ∃ xs, Rd w 3 A n c xs ∧ Edits w xs e
theorem Edits.ext {w w' : World} {xs : List Value} {e : List Spl} (h : Edits w xs e) (he : Ext w w') : Edits w' xs e :=
  ⟨h.1, fun i hi => let ⟨B, m, d, h1, h2, h3, h4, h5⟩ := h.2 i hi; ⟨B, m, d, h1, h2, h3, h4.ext he, h5⟩⟩
theorem EditAt.ext {w w' : World} {A : Option Addr} {n c : Nat} {e : List Spl} (h : EditAt w A n c e) (he : Ext w w') : EditAt w' A n c e :=
  let ⟨xs, h1, h2⟩ := h; ⟨xs, h1.ext he, h2.ext he⟩
theorem EditAt.len {w : World} {A : Option Addr} {n c : Nat} {e : List Spl} (h : EditAt w A n c e) : e.length = n := by
  obtain ⟨xs, h1, h2⟩ := h
  have := h1.len
  have := h2.1
  omega
theorem EditAt.ncap {w : World} {A : Option Addr} {n c : Nat} {e : List Spl} (h : EditAt w A n c e) : n ≤ c := let ⟨xs, h1, h2⟩ := h; h1.ncap
theorem EditAt.nmax {w : World} {A : Option Addr} {n c : Nat} {e : List Spl} (h : EditAt w A n c e) : c ≤ maxLen := let ⟨xs, h1, h2⟩ := h; h1.nmax
theorem EditAt.at_ {w : World} {A : Option Addr} {n c : Nat} {e : List Spl} (h : EditAt w A n c e) {k : Nat} (hk : k < n) :
    ∃ ad B m d, A = some ad ∧ w.cell? (ad.add (k * 3)) = some (.int .i64 (gE e k).f) ∧ w.cell? ⟨(ad.add (k * 3)).block, (ad.add (k * 3)).off + 1, none⟩ = some (.int .i64 (gE e k).t) ∧ w.cell? ⟨(ad.add (k * 3)).block, (ad.add (k * 3)).off + 2, none⟩ = some (.slice B m d) ∧ Ints w B m d (gE e k).x ∧ (B = none → d = 0) := by
  have hl := h.len
  obtain ⟨xs, h1, h2⟩ := h
  obtain ⟨ad, hA, hc⟩ := h1.at_ hk
  obtain ⟨B, m, d, k1, k2, k3, k4, k5⟩ := h2.2 k (by omega)
  refine ⟨ad, B, m, d, hA, hc _ _ k1, ?_, ?_, k4, k5⟩
  · have := hc _ _ k2
    rw [← add_of_add] at this
    exact this
  · have := hc _ _ k3
    rw [← add_of_add] at this
    exact this
theorem EditAt.none_ (w : World) : EditAt w none 0 0 [] := ⟨[], Rd.none_ w 3, rfl, fun i hi => absurd hi (by simp)⟩

theorem drop_edit {e : List Spl} {k : Nat} (h : k < e.length) : e.drop k = gE e k :: e.drop (k + 1) := by
  rw [List.drop_eq_getElem_cons h]
  simp [gE, h]

set_option maxRecDepth 20000 in
set_option maxHeartbeats 4000000 in
theorem check_in {e : List Spl} {A : Option Addr} {n c N : Nat} {w : World} (h : EditAt w A n c e) (hN : N ≤ 4096) :
    Calls Try.prog 24 #[.int .i64 N, .slice A n c] w fun e' w' => e' = .returned (.int .i64 (chkF N e)) ∧ Ext w w' := by
  have hlen := Lib.hid h.len
  have hnc := h.ncap
  have hcm := h.nmax
  unfold maxLen at hcm
  have HF : Hid (chkF N e = chkL N (-1) N (e.drop 0)) := Lib.hid (by unfold chkF; rw [if_neg (by omega)]; rfl)
  go_enter Try.func24, Try.ntmps24
  go_wp2_with fail
  go_loopw [5, 6, 18] (fun la sz i wr => ∃ (k : Nat) (last size : Int), k ≤ n ∧ i = .int .i64 k ∧ la = .int .i64 last ∧ sz = .int .i64 size ∧ -1 ≤ last ∧ last ≤ N ∧ N - last - 1 ≤ size ∧ size ≤ 8192 ∧ Hid (chkF N e = chkL N last size (e.drop k)) ∧ Ext w wr) (fun _ _ i _ => n - (intOf i).toNat)
  case atStart => exact ⟨0, -1, N, by omega, rfl, rfl, rfl, by omega, by omega, by omega, by omega, HF, Ext.refl _⟩
  case round =>
    clear HF
    obtain ⟨k, last, size, hk, rfl, rfl, rfl, hl1, hl2, hs1, hs2, HC, he⟩ := hrel
    by_cases hlt : k < n
    · obtain ⟨ad, B, m, d, rfl, c0, c1, c2, hx, _⟩ := (h.ext he).at_ hlt
      have hmd := hx.ncap
      have hdm := hx.nmax
      unfold maxLen at hdm
      have HS : Hid (chkF N e = if (gE e k).f ≤ last ∨ (gE e k).t < (gE e k).f ∨ (N : Int) < (gE e k).t ∨ ((gE e k).f = (gE e k).t ∧ m = 0) then 4
          else if 4096 < m ∨ 8192 < size - ((gE e k).t - (gE e k).f) + (m : Int) then 2 else chkL N (gE e k).t (size - ((gE e k).t - (gE e k).f) + (m : Int)) (e.drop (k + 1))) := Lib.hid (by
        rw [HC.out, drop_edit (by rw [hlen.out]; exact hlt)]
        simp only [chkL, hx.len])
      clear HC hx
      generalize (gE e k).f = f at *
      generalize (gE e k).t = t at *
      have hx1 := he.to_alloc (.cells #[.int .i64 f, .int .i64 t, .slice B m d] 64)
      clear he
      by_cases h1 : f ≤ last
      · go_wp2_with fail
        go_ret
        exact ⟨by rw [HS.out, if_pos (by omega)]; rfl, hx1⟩
      · by_cases h2 : t < f
        · go_wp2_with fail
          go_ret
          exact ⟨by rw [HS.out, if_pos (by omega)]; rfl, hx1⟩
        · by_cases h3 : (N : Int) < t
          · go_wp2_with fail
            go_ret
            exact ⟨by rw [HS.out, if_pos (by omega)]; rfl, hx1⟩
          · by_cases h4 : f = t ∧ m = 0
            · obtain ⟨h4, h5⟩ := h4
              subst h4; subst h5
              go_wp2_with fail
              go_ret
              exact ⟨by rw [HS.out, if_pos (by simp)]; rfl, hx1⟩
            · by_cases h5 : 4096 < m
              · have h6 : ¬ m = 0 := by omega
                clear h4
                by_cases h7 : f = t
                · subst h7
                  go_wp2_with fail
                  go_ret
                  exact ⟨by rw [HS.out, if_neg (by omega), if_pos (by omega)]; rfl, hx1⟩
                · go_wp2_with fail
                  go_ret
                  exact ⟨by rw [HS.out, if_neg (by omega), if_pos (by omega)]; rfl, hx1⟩
              · by_cases h6 : 8192 < size - (t - f) + (m : Int)
                · by_cases h7 : f = t
                  · subst h7
                    have h8 : ¬ m = 0 := by omega
                    clear h4
                    go_wp2_with fail
                    go_ret
                    exact ⟨by rw [HS.out, if_neg (by omega), if_pos (by omega)]; rfl, hx1⟩
                  · clear h4
                    go_wp2_with fail
                    go_ret
                    exact ⟨by rw [HS.out, if_neg (by omega), if_pos (by omega)]; rfl, hx1⟩
                · have HC2 : Hid (chkF N e = chkL N t (size - (t - f) + (m : Int)) (e.drop (k + 1))) := Lib.hid (by rw [HS.out, if_neg (by omega), if_neg (by omega)])
                  clear HS
                  by_cases h7 : f = t
                  · subst h7
                    have h8 : ¬ m = 0 := by omega
                    clear h4
                    go_wp2_with fail
                    go_roundw
                    case rel => exact ⟨k + 1, f, size - (f - f) + m, by omega, by go_num, rfl, by (first | rfl | (congr 1; omega)), by omega, by omega, by omega, by omega, HC2, hx1⟩
                    case measure => simp [intOf]; omega
                  · clear h4
                    go_wp2_with fail
                    go_roundw
                    case rel => exact ⟨k + 1, t, size - (t - f) + m, by omega, by go_num, rfl, by (first | rfl | (congr 1; omega)), by omega, by omega, by omega, by omega, HC2, hx1⟩
                    case measure => simp [intOf]; omega
    · obtain rfl : k = n := by omega
      have HS : Hid (chkF N e = if 4096 < size then 2 else 0) := Lib.hid (by
        rw [HC.out, List.drop_of_length_le (by rw [hlen.out]; exact Nat.le_refl _)]
        rfl)
      clear HC
      by_cases h1 : 4096 < size
      · go_wp2_with fail
        go_ret
        exact ⟨by rw [HS.out, if_pos h1]; rfl, he⟩
      · go_wp2_with fail
        go_ret
        exact ⟨by rw [HS.out, if_neg (by omega)]; rfl, he⟩
end Go.Proofs.Ytmhgndjmcignjaa
