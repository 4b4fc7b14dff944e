/-
  edit.Do: its own walk, around what a command does.
-/
import Derived.Test.YtmhgndjmcignjaaZJ2
import Derived.Test.YtmhgndjmcignjaaZClone
import Derived.Test.YtmhgndjmcignjaaZSeg
import Derived.Test.YtmhgndjmcignjaaZJ1
import Derived.Deep.RegionLaw

namespace Go.Proofs.Ytmhgndjmcignjaa
open Go.RowKit
set_option linter.unusedVariables false
set_option linter.unusedSimpArgs false

/-- Check. -/
theorem check_fine {A : Option Addr} {n c : Nat} {a : Int} (w : World) (hn : n ≤ 200) (ha : 0 ≤ a) (ha2 : a ≤ max 0 ((n : Int) - 1)) :
    Calls Try.prog 20 #[.agg #[.slice A n c, .int .i64 a]] w fun e w' => e = .returned (.int .i64 0) ∧ Ext w w' := by
  have hx := Lib.hid (Ext.alloc w (.cells #[.slice A n c, .int .i64 a] 24))
  go_enter Try.func20, Try.ntmps20
  go_wp2_with fail
  all_goals
    go_ret
    exact ⟨rfl, hx.out⟩

/-- A result that is nothing. -/
def resZ : Array Value := #[.slice none 0 0, .int .i64 0, .slice none 0 0, .slice none 0 0, .slice none 0 0, .slice none 0 0, .slice none 0 0, .slice none 0 0, .slice none 0 0, .slice none 0 0, .slice none 0 0, .slice none 0 0, .slice none 0 0, .slice none 0 0, .slice none 0 0, .slice none 0 0, .slice none 0 0, .slice none 0 0, .slice none 0 0, .slice none 0 0, .slice none 0 0, .slice none 0 0, .slice none 0 0, .slice none 0 0, .slice none 0 0, .slice none 0 0, .slice none 0 0, .slice none 0 0, .slice none 0 0, .int .i64 0, .int .i64 0, .int .i64 0, .slice none 0 0]
theorem do_start (w : World) (A : Option Addr) (n c : Nat) (a fk fa k1 k2 k3 k4 k5 : Int) (rs : Array Value) : ∃ w0, w0 = (((((w.alloc (.cells #[.slice A n c, .int .i64 a] 24)).alloc (.cells rs 30)).alloc (.cells #[.int .i64 fk, .int .i64 fa] 26)).alloc (.cells #[.int .i64 k1, .int .i64 k2, .int .i64 k3, .int .i64 k4, .int .i64 k5] 28)).alloc (.cells resZ 33)) ∧ Ext w w0 ∧
    Blk w0 w.heap.size 24 #[.slice A n c, .int .i64 a] ∧ Blk w0 (w.heap.size + 1) 30 rs ∧ Blk w0 (w.heap.size + 1 + 1) 26 #[.int .i64 fk, .int .i64 fa] ∧ Blk w0 (w.heap.size + 1 + 1 + 1) 28 #[.int .i64 k1, .int .i64 k2, .int .i64 k3, .int .i64 k4, .int .i64 k5] ∧ Blk w0 (w.heap.size + 1 + 1 + 1 + 1) 33 resZ := by
  have h1 := Blk.new w 24 #[.slice A n c, .int .i64 a]
  have x1 := Ext.alloc w (.cells #[.slice A n c, .int .i64 a] 24)
  have z1 : (w.alloc (.cells #[.slice A n c, .int .i64 a] 24)).heap.size = w.heap.size + 1 := by simp
  generalize w.alloc (.cells #[.slice A n c, .int .i64 a] 24) = W1 at *
  have h2 := Blk.new W1 30 rs
  have x2 := Ext.alloc W1 (.cells rs 30)
  have z2 : (W1.alloc (.cells rs 30)).heap.size = w.heap.size + 1 + 1 := by simp [z1]
  rw [z1] at h2
  generalize W1.alloc (.cells rs 30) = W2 at *
  have h3 := Blk.new W2 26 #[.int .i64 fk, .int .i64 fa]
  have x3 := Ext.alloc W2 (.cells #[.int .i64 fk, .int .i64 fa] 26)
  have z3 : (W2.alloc (.cells #[.int .i64 fk, .int .i64 fa] 26)).heap.size = w.heap.size + 1 + 1 + 1 := by simp [z2]
  rw [z2] at h3
  generalize W2.alloc (.cells #[.int .i64 fk, .int .i64 fa] 26) = W3 at *
  have h4 := Blk.new W3 28 #[.int .i64 k1, .int .i64 k2, .int .i64 k3, .int .i64 k4, .int .i64 k5]
  have x4 := Ext.alloc W3 (.cells #[.int .i64 k1, .int .i64 k2, .int .i64 k3, .int .i64 k4, .int .i64 k5] 28)
  have z4 : (W3.alloc (.cells #[.int .i64 k1, .int .i64 k2, .int .i64 k3, .int .i64 k4, .int .i64 k5] 28)).heap.size = w.heap.size + 1 + 1 + 1 + 1 := by simp [z3]
  rw [z3] at h4
  generalize W3.alloc (.cells #[.int .i64 k1, .int .i64 k2, .int .i64 k3, .int .i64 k4, .int .i64 k5] 28) = W4 at *
  have h5 := Blk.new W4 33 resZ
  have x5 := Ext.alloc W4 (.cells resZ 33)
  rw [z4] at h5
  exact ⟨_, rfl, (((x1.trans x2).trans x3).trans x4).trans x5, Blk.ext h1 (((x2.trans x3).trans x4).trans x5), Blk.ext h2 ((x3.trans x4).trans x5), Blk.ext h3 (x4.trans x5), Blk.ext h4 x5, h5⟩

/-- A doer as it is made. -/
def doer0 (A : Option Addr) (n c : Nat) (a : Int) (rs : Array Value) (k1 k2 k3 k4 k5 : Int) : Array Value := #[.slice A n c, .int .i64 a] ++ rs ++ #[.int .i64 k1, .int .i64 k2, .int .i64 k3, .int .i64 k4, .int .i64 k5] ++ resZ
theorem doer0_size {A : Option Addr} {n c : Nat} {a : Int} {rs : Array Value} {k1 k2 k3 k4 k5 : Int} (h : rs.size = 27) : (doer0 A n c a rs k1 k2 k3 k4 k5).size = 67 := by
  simp [doer0, resZ, h]
set_option maxRecDepth 100000 in
theorem do_built27 (A : Option Addr) (n c : Nat) (a k1 k2 k3 k4 k5 : Int) (r0 r1 r2 r3 r4 r5 r6 r7 r8 r9 r10 r11 r12 r13 r14 r15 r16 r17 r18 r19 r20 r21 r22 r23 r24 r25 r26 : Value) :
    Try.prog.built 57 [(0, .agg #[.slice A n c, .int .i64 a]), (1, .agg #[r0, r1, r2, r3, r4, r5, r6, r7, r8, r9, r10, r11, r12, r13, r14, r15, r16, r17, r18, r19, r20, r21, r22, r23, r24, r25, r26]), (2, .agg #[.int .i64 k1, .int .i64 k2, .int .i64 k3, .int .i64 k4, .int .i64 k5])] = some (doer0 A n c a #[r0, r1, r2, r3, r4, r5, r6, r7, r8, r9, r10, r11, r12, r13, r14, r15, r16, r17, r18, r19, r20, r21, r22, r23, r24, r25, r26] k1 k2 k3 k4 k5) := by kernel_rfl
theorem do_built {A : Option Addr} {n c : Nat} {a : Int} {rs : Array Value} {k1 k2 k3 k4 k5 : Int} (h : rs.size = 27) :
    Try.prog.built 57 [(0, .agg #[.slice A n c, .int .i64 a]), (1, .agg rs), (2, .agg #[.int .i64 k1, .int .i64 k2, .int .i64 k3, .int .i64 k4, .int .i64 k5])] = some (doer0 A n c a rs k1 k2 k3 k4 k5) := by
  obtain ⟨l⟩ := rs
  match l, h with
  | [r0, r1, r2, r3, r4, r5, r6, r7, r8, r9, r10, r11, r12, r13, r14, r15, r16, r17, r18, r19, r20, r21, r22, r23, r24, r25, r26], _ => exact do_built27 A n c a k1 k2 k3 k4 k5 r0 r1 r2 r3 r4 r5 r6 r7 r8 r9 r10 r11 r12 r13 r14 r15 r16 r17 r18 r19 r20 r21 r22 r23 r24 r25 r26
/-- The result as it begins. -/
def res1 (T : Value) (a fk fa : Int) : Array Value := ((#[T, .int .i64 a, .slice none 0 0, .slice none 0 0, .slice none 0 0, .slice none 0 0, .slice none 0 0, .slice none 0 0, .slice none 0 0, .slice none 0 0, .slice none 0 0, .slice none 0 0, .slice none 0 0, .slice none 0 0, .slice none 0 0, .slice none 0 0, .slice none 0 0, .slice none 0 0, .slice none 0 0, .slice none 0 0, .slice none 0 0, .slice none 0 0, .slice none 0 0, .slice none 0 0, .slice none 0 0, .slice none 0 0, .slice none 0 0, .slice none 0 0, .slice none 0 0, .int .i64 fk, .int .i64 fa, .int .i64 0, .slice none 0 0] : Array Value))
theorem res1_size (T : Value) (a fk fa : Int) : (res1 T a fk fa).size = 33 := rfl
theorem res1_one (B : Option Addr) (n d : Nat) (a fk fa : Int) : (res1 (.slice B n d) a fk fa).all (·.oneCell') = true := by simp [res1, Value.oneCell']
theorem resZ_one : resZ.all (·.oneCell') = true := by simp [resZ, Value.oneCell']
end Go.Proofs.Ytmhgndjmcignjaa
