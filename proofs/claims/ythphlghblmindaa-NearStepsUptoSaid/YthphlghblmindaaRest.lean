/-
  fairref.Rest: the walk.
-/
import Derived.Test.YthphlghblmindaaBase
import Derived.IntWalk
namespace Go.Proofs.Ythphlghblmindaa
open Go.RowKit
set_option linter.unusedVariables false
set_option linter.unusedSimpArgs false

/-- What is left of a, from 0 up to b. -/
def restF (a : Int) (b : Nat) : Nat := ((a.tmod b + b).tmod b).toNat
theorem restF_lt {a : Int} {b : Nat} (hb : 1 ≤ b) : restF a b < b := by
  unfold restF
  have h1 := Int.tmod_lt_of_pos (a.tmod b + b) (show (0 : Int) < b by omega)
  omega

set_option maxRecDepth 20000 in
set_option maxHeartbeats 1000000 in
theorem rest_ok (a : Int) (b : Nat) (w : World) (hb : 1 ≤ b) (hb2 : b ≤ 1152921504606846976) :
    Calls Try.prog 29 #[.int .i64 a, .int .i64 b] w fun e w' => e = .returned (.int .i64 (restF a b)) ∧ w' = w := by
  have h1 : a.tmod b < b := Int.tmod_lt_of_pos a (show (0 : Int) < b by omega)
  have h2 : -(b : Int) < a.tmod b := by
    have := Int.lt_tmod_of_pos a (show (0 : Int) < b by omega)
    omega
  have h3 : Hid ((a.tmod b + b).tmod b = (restF a b : Int)) := by
    show _ = _
    unfold restF
    have := Int.tmod_nonneg (b : Int) (show 0 ≤ a.tmod b + b by omega)
    omega
  have h4 : ¬ (b : Int) ≤ 0 := by omega
  have h5 : ¬ (b : Int) = 0 := by omega
  go_enter Try.func29, Try.ntmps29
  go_wp2_with fail
  go_ret
  refine ⟨ret_int ?_, rfl⟩
  rw [← h3.out, Int.tmod_eq_emod_of_nonneg (a := a.tmod b + b) (by omega), Int.add_emod_right]
end Go.Proofs.Ythphlghblmindaa
