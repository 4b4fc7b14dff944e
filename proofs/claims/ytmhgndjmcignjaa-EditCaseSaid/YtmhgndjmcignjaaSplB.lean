/-
  The walk of SpliceBack.
-/
import Derived.Test.YtmhgndjmcignjaaSplE
namespace Go.Proofs.Ytmhgndjmcignjaa
open Go.RowKit
set_option linter.unusedVariables false
set_option linter.unusedSimpArgs false

theorem behind_start {n : Int} {e : List Spl} (h : good n (-1) e) : behind 0 e := fun u hu => by
  cases e with
  | nil => cases hu
  | cons v e => cases hu; have := h.1; omega
theorem chk_und {l : List Int} {e : List Spl} {n N : Nat} (hl : l.length = n) (hN : (appF l 0 e).length = N) (h : chkF n e = 0) : chkF N (undF l 0 e) = 0 := by
  obtain ⟨h1, h2, h3, h4⟩ := chkF_zero.1 h
  subst hl
  have hlen := app_len l e 0 (-1) h3 (by omega) (by omega) (behind_start h3)
  have hfe := fits_end h4
  have hd := delta_lo h3 (by omega) (by omega)
  refine chkF_zero.2 ⟨by omega, by omega, ?_, ?_⟩
  · exact und_good e (-1) 0 h3 (by omega) (by omega) (by omega) (by omega) (by omega)
  · exact und_fits e (-1) 0 l.length h3 (by omega) (by omega) h4 (by omega) (by omega) (by omega) _ (by omega) (by omega) (by omega)
theorem app_und {l : List Int} {e : List Spl} {n : Nat} (hl : l.length = n) (h : chkF n e = 0) : appF (appF l 0 e) 0 (undF l 0 e) = l ∧ undF (appF l 0 e) 0 (undF l 0 e) = e := by
  obtain ⟨h1, h2, h3, h4⟩ := chkF_zero.1 h
  subst hl
  have k1 := back_app l e 0 (-1) 0 [] h3 (behind_start h3) (by simp)
  have k2 := back_und l e 0 (-1) 0 [] h3 (behind_start h3) (by simp)
  exact ⟨by simpa using k1, by simpa using k2⟩
theorem edit_lit1 {W : World} {g : Nat} {f t : Int} {B : Option Addr} {m d : Nat} {x : List Int} (h : Blk W g 64 #[.int .i64 f, .int .i64 t, .slice B m d]) (hx : Ints W B m d x) (hn : B = none → d = 0) : EditAt W (some ⟨g, 0, none⟩) 1 1 [⟨f, t, x⟩] := by
  refine ⟨[.int .i64 f, .int .i64 t, .slice B m d], ⟨rfl, Nat.le_refl _, by unfold maxLen; omega, fun _ => ⟨_, rfl, fun j u hu => ?_⟩⟩, rfl, fun i hi => ?_⟩
  · have : (⟨g, 0, none⟩ : Addr).add j = ⟨g, j, none⟩ := by simp [Addr.add_lit]
    rw [this, h.cell j]
    simpa using hu
  · obtain rfl : i = 0 := by simpa using hi
    exact ⟨B, m, d, rfl, rfl, rfl, hx, hn⟩
end Go.Proofs.Ytmhgndjmcignjaa
