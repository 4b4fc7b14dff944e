/-
  edit.Key in Insert: a character, a backspace; the line that is full or too long.
-/
import Derived.Test.YtmhgndjmcignjaaZConc
import Derived.Test.YtmhgndjmcignjaaZJ1
import Derived.Test.YtmhgndjmcignjaaZCut
import Derived.Test.YtmhgndjmcignjaaZClone
import Derived.Deep.RegionLaw
import Derived.Deep.RegionHeld3
import Derived.Deep.DeepCutAuto
import Derived.Deep.CutRange
import Derived.Laws.Rows
import Derived.IntWalk

namespace Go.Proofs.Ytmhgndjmcignjaa
open Go.RowKit
set_option linter.unusedVariables false
set_option linter.unusedSimpArgs false

/-- A character typed; a character taken back. -/
def insL (l : List Int) (a : Nat) (c : Int) : List Int := l.take a ++ [c] ++ l.drop a
def delL (l : List Int) (a : Nat) : List Int := l.take (a - 1) ++ l.drop a
theorem cells2 {w : World} {g t : Nat} {a b : Value} (h : Blk w g t #[a, b]) : w.cell? ⟨g, 0, none⟩ = some a ∧ w.cell? ⟨g, 1, none⟩ = some b := ⟨h.cell 0, h.cell 1⟩
theorem frozen2 {w : World} {g t : Nat} {cs : Array Value} (h : Blk w g t cs) : w.frozen? ⟨g, 0, none⟩ = false ∧ w.frozen? ⟨g, 1, none⟩ = false := ⟨h.frozen 0, h.frozen 1⟩
theorem line_info : (Try.prog.info? 24).map (·.size) = some 2 := by kernel_rfl
theorem line_size {cs : Array Value} (h : cs.size = 2) : (Try.prog.info? 24).map (·.size) = some cs.size := by rw [h]; exact line_info
theorem results_row_t1 {P : Program} {fn : Func} {p q : Tmp} {ty : TypeId} (h : fn.results = #[.cell p ty, .tmp q]) (tmps : Array Value) (w : World) (g : Nat) (t : TypeId) (cs : Array Value) (fr : Nat × Nat) (d : TypeDesc) (v : Value)
    (hp : tmps.getD p undef = .pointer (some ⟨g, 0, none⟩)) (hq : tmps.getD q undef = v) (hg : w.heap[g]? = some (.cells cs t fr))
    (hu : P.underlying ty = some d) (hd : (match d with | .struct _ | .array _ _ => true | _ => false) = true) (hi : (P.info? ty).map (·.size) = some cs.size) :
    (results fn tmps).run P w = .ok (.tuple #[.agg cs, v]) w := by
  have hp' : tmps[p]?.getD undef = .pointer (some ⟨g, 0, none⟩) := by simpa using hp
  have hq' : tmps[q]?.getD undef = v := by simpa using hq
  simp [results, h, hp', hq', asAddr, run_loadVar_row w g t ty cs fr d hg hu hd hi]
/-- Two cells are stored. -/
def st2 (w : World) (g : Nat) (a b : Value) : World := (w.setCell ⟨g, 0, none⟩ a).setCell ⟨g, 1, none⟩ b
theorem st2_blk {w : World} {g t : Nat} {a' b' : Value} (h : Blk w g t #[a', b']) (a b : Value) : Blk (st2 w g a b) g t #[a, b] := (h.set_ 0 a).set_ 1 b
theorem st2_ext {w0 w : World} {g : Nat} (h : Ext w0 w) (hg : w0.heap.size ≤ g) (a b : Value) : Ext w0 (st2 w g a b) := (h.setCell (p := ⟨g, 0, none⟩) hg a).setCell (p := ⟨g, 1, none⟩) hg b
theorem st2_own {w : World} {g base e' z n cc : Nat} {A : Option Addr} {xs : List Value} (h : Own w base e' z A n cc xs) (hg : g < base) (a b : Value) : Own (st2 w g a b) base e' z A n cc xs := (h.setCell (p := ⟨g, 0, none⟩) hg a).setCell (p := ⟨g, 1, none⟩) hg b

/-- What Key answers. -/
def KeyIs (l' : List Int) (a' : Nat) (w : World) (e : Ending) (w' : World) : Prop :=
  Ext w w' ∧ ∃ B n d, e = .returned (.tuple #[.agg #[.slice B n d, .int .i64 a'], .int .i64 0]) ∧ OwnI w' w.heap.size B n d l'
def KeyNo (w : World) (e : Ending) (w' : World) : Prop := Ext w w' ∧ ∃ x : Int, x ≠ 0 ∧ e = .returned (.tuple #[.agg #[.slice none 0 0, .int .i64 0], .int .i64 x])

set_option maxRecDepth 20000 in
set_option maxHeartbeats 8000000 in
theorem key_ins {w : World} {A : Option Addr} {n c a : Nat} {l : List Int} {k : Int} (hl : Ints w A n c l) (hA : A = none → c = 0) (hn : n < 200) (ha : a ≤ n) (hk1 : 32 ≤ k) (hk2 : k ≠ 127) :
    Calls Try.prog 14 #[.agg #[.slice A n c, .int .i64 (a : Int)], .int .i64 1, .int .i64 k] w (KeyIs (insL l a k) (a + 1) w) := by
  have HL := Lib.hid hl
  have hlen := Lib.hid hl.len
  have hnc := hl.ncap
  have hcm := hl.nmax
  unfold maxLen at hcm
  have b3 := Lib.hid ((Blk.new w 24 #[.slice A n c, .int .i64 (a : Int)]).ext (Ext.alloc _ (.cells #[.slice none 0 0, .int .i64 0] 24)))
  have b6 : Hid (Blk ((w.alloc (.cells #[.slice A n c, .int .i64 (a : Int)] 24)).alloc (.cells #[.slice none 0 0, .int .i64 0] 24)) (w.heap.size + 1) 24 #[.slice none 0 0, .int .i64 0]) := Lib.hid (by
    have := Blk.new (w.alloc (.cells #[.slice A n c, .int .i64 (a : Int)] 24)) 24 #[.slice none 0 0, .int .i64 0]
    rwa [World.size_alloc] at this)
  have hx0 : Hid (Ext w ((w.alloc (.cells #[.slice A n c, .int .i64 (a : Int)] 24)).alloc (.cells #[.slice none 0 0, .int .i64 0] 24))) := Lib.hid ((Ext.alloc _ _).to_alloc _)
  have hsz : Hid (((w.alloc (.cells #[.slice A n c, .int .i64 (a : Int)] 24)).alloc (.cells #[.slice none 0 0, .int .i64 0] 24)).heap.size = w.heap.size + 2) := Lib.hid (by simp)
  have t1 : decide ((200 : Int) < (n : Int)) = false := by simp; omega
  have t2 : ((n : Int) == 200) = false := by simp; omega
  have t3 : ((a : Int) < 0) = False := by simp
  have t4 : decide (n < a) = false := by simp; omega
  have t5 : decide ((n : Int) < (a : Int)) = false := by simp; omega
  have t6 : (k != 127) = true := by simpa using hk2
  clear hl
  go_enter Try.func14, Try.ntmps14
  go_upto_region 1 with fail
  generalize (w.alloc (.cells #[.slice A n c, .int .i64 (a : Int)] 24)).alloc (.cells #[.slice none 0 0, .int .i64 0] 24) = W at *
  obtain ⟨c0, c1⟩ := cells2 b3.out
  go_wp2_with fail
  go_quiet (fail)
  go_wp2_with fail
  have hV0 : Hid (Ext W ((W.drewN nq).alloc (.cells #[.int .i64 k] 3))) := Lib.hid ((Ext.drewN W nq).to_alloc _)
  have hI11 : Hid (Ints ((W.drewN nq).alloc (.cells #[.int .i64 k] 3)) (some ⟨W.heap.size, 0, none⟩) 1 1 [k]) := Lib.hid (Ints.litAt (W.drewN nq) 3 [k] rfl rfl (by omega))
  have hsV : Hid (((W.drewN nq).alloc (.cells #[.int .i64 k] 3)).heap.size = W.heap.size + 1) := Lib.hid (by simp)
  generalize (W.drewN nq).alloc (.cells #[.int .i64 k] 3) = V at *
  have HC : Hid (∀ (wq : World) (S : Option Addr), Ext V wq → Rd wq 1 S 3 3 [.slice A a c, .slice (some ⟨W.heap.size, 0, none⟩) 1 1, .slice (if c = a then A else Option.map (fun x => x.add a) A) (n - a) (c - a)] → Calls Try.prog 11 #[.slice S 3 3] wq fun e w' => ∃ B n d, e = .returned (.slice B n d) ∧ OwnI w' wq.heap.size B n d (insL l a k) ∧ Ext wq w') := Lib.hid (fun wq S he hS => by
    have hl := (HL.out.ext (hx0.out.trans hV0.out)).ext he
    have h1 := concat_ok hS (Lists.three (hl.front ha) (hI11.out.ext he) (hl.cut ha (Nat.le_refl n))) rfl (by
      have := hlen.out
      simp
      omega)
    refine h1.mono fun e w' ⟨B, m, d, h2, h3, h4⟩ => ⟨B, m, d, h2, ?_, h4⟩
    have : (l.take a :: [k] :: [(l.drop a).take (n - a)]).flatten = insL l a k := by
      have hh : (l.drop a).take (n - a) = l.drop a := List.take_of_length_le (by rw [List.length_drop, hlen.out]; exact Nat.le_refl _)
      unfold insL
      rw [hh]
      simp
    rw [← this]
    exact h3)
  have b3V := Lib.hid (Blk.ext b3.out hV0.out)
  have b6V := Lib.hid (Blk.ext b6.out hV0.out)
  have hxV := Lib.hid (hx0.out.trans hV0.out)
  clear c0 c1 b3 b6
  obtain ⟨c0, c1⟩ := cells2 b3V.out
  have c0' : V.drew.cell? ⟨w.heap.size, 0, none⟩ = some (.slice A n c) := c0
  have hac : a ≤ c := by omega
  have hsV2 : V.heap.size = W.heap.size + 1 := hsV.out
  have hRd1 : Hid (Rd (V.drew.alloc (.cells #[.slice A a c, .slice (some ⟨W.heap.size, 0, none⟩) 1 1, .slice (if c = a then A else Option.map (fun x => x.add a) A) (n - a) (c - a)] 22)) 1 (some ⟨V.heap.size, 0, none⟩) 3 3 [.slice A a c, .slice (some ⟨W.heap.size, 0, none⟩) 1 1, .slice (if c = a then A else Option.map (fun x => x.add a) A) (n - a) (c - a)]) := Lib.hid (Rd.litAt V.drew 22 _ rfl rfl (by omega))
  have hRd2 : Hid (Rd ((V.alloc (.cells #[.slice A a c, .slice (some ⟨W.heap.size, 0, none⟩) 1 1, .slice (if c = a then A else Option.map (fun x => x.add a) A) (n - a) (c - a)] 22)).drew) 1 (some ⟨V.heap.size, 0, none⟩) 3 3 [.slice A a c, .slice (some ⟨W.heap.size, 0, none⟩) 1 1, .slice (if c = a then A else Option.map (fun x => x.add a) A) (n - a) (c - a)]) := Lib.hid (Rd.ext (Rd.litAt V 22 _ rfl rfl (by omega)) (Ext.drew _))
  have hVz : w.heap.size + 1 < V.heap.size := by rw [hsV.out, hsz.out]; omega
  clear hI11 hV0 hsV hsV2 HL
  have hwa : IntKind.i64.wrap ((a : Int) + 1) = (a : Int) + 1 := IntWalk.i64_in _ (by omega)
  go_region_law (first
    | (refine step_callf rfl 11 #[.slice (some ⟨V.heap.size, 0, none⟩) 3 3] rfl (by kernel_rfl) (fun v w' => ∃ B m d, v = .slice B m d ∧ OwnI w' (V.heap.size + 1) B m d (insL l a k) ∧ Ext V w') ((HC.out _ _ ((Ext.drew V).to_alloc _) hRd1.out).mono fun e w' ⟨B, m, d, h1, h2, h3⟩ => ⟨_, h1, B, m, d, rfl, by simpa using h2, ((Ext.drew V).to_alloc _).trans h3⟩) ?_
       rintro v w3 ⟨B, m, d, rfl, ho3, he3⟩
       have hb6 := Blk.ext b6V.out he3
       obtain ⟨d0, d1⟩ := cells2 hb6
       obtain ⟨f0, f1⟩ := frozen2 hb6)
    | (refine step_callf rfl 11 #[.slice (some ⟨V.heap.size, 0, none⟩) 3 3] rfl (by kernel_rfl) (fun v w' => ∃ B m d, v = .slice B m d ∧ OwnI w' (V.heap.size + 1) B m d (insL l a k) ∧ Ext V w') ((HC.out _ _ ((Ext.alloc V _).to_drew) hRd2.out).mono fun e w' ⟨B, m, d, h1, h2, h3⟩ => ⟨_, h1, B, m, d, rfl, by simpa using h2, ((Ext.alloc V _).to_drew).trans h3⟩) ?_
       rintro v w3 ⟨B, m, d, rfl, ho3, he3⟩
       have hb6 := Blk.ext b6V.out he3
       obtain ⟨d0, d1⟩ := cells2 hb6
       obtain ⟨f0, f1⟩ := frozen2 hb6))
  all_goals
    have hfin := Lib.hid (st2_blk hb6 (.slice B m d) (.int .i64 ((a + 1 : Nat) : Int)))
    have hX := Lib.hid (st2_ext (hxV.out.trans he3) (show w.heap.size ≤ w.heap.size + 1 by omega) (.slice B m d) (.int .i64 ((a + 1 : Nat) : Int)))
    have hO := Lib.hid (st2_own ho3 (show w.heap.size + 1 < V.heap.size + 1 by omega) (.slice B m d) (.int .i64 ((a + 1 : Nat) : Int)))
    unfold st2 at hfin hX hO
    clear hb6 d0 d1 f0 f1 he3 ho3
    go_simp
    go_wp2_with fail
    all_goals
      refine bodyPost_ret (v := .tuple #[.agg #[.slice B m d, .int .i64 ((a + 1 : Nat) : Int)], .int .i64 0]) ?_ rfl ⟨hX.out, B, m, d, rfl, Own.lower hO.out (by omega)⟩
      exact results_row_t1 rfl _ _ (w.heap.size + 1) 24 _ _ _ _ rfl rfl hfin.out Try.underlying24 rfl (line_size rfl)
end Go.Proofs.Ytmhgndjmcignjaa

namespace Go.Proofs.Ytmhgndjmcignjaa
open Go.RowKit
set_option linter.unusedVariables false
set_option linter.unusedSimpArgs false

set_option maxRecDepth 20000 in
set_option maxHeartbeats 8000000 in
theorem key_large {w : World} {A : Option Addr} {n c : Nat} {a k : Int} (hnc : n ≤ c) (hcm : c ≤ maxLen) (hn : 200 < n) :
    Calls Try.prog 14 #[.agg #[.slice A n c, .int .i64 a], .int .i64 1, .int .i64 k] w (KeyNo w) := by
  unfold maxLen at hcm
  have b3 := Lib.hid ((Blk.new w 24 #[.slice A n c, .int .i64 a]).ext (Ext.alloc _ (.cells #[.slice none 0 0, .int .i64 0] 24)))
  have b6 : Hid (Blk ((w.alloc (.cells #[.slice A n c, .int .i64 a] 24)).alloc (.cells #[.slice none 0 0, .int .i64 0] 24)) (w.heap.size + 1) 24 #[.slice none 0 0, .int .i64 0]) := Lib.hid (by
    have := Blk.new (w.alloc (.cells #[.slice A n c, .int .i64 a] 24)) 24 #[.slice none 0 0, .int .i64 0]
    rwa [World.size_alloc] at this)
  have hx0 : Hid (Ext w ((w.alloc (.cells #[.slice A n c, .int .i64 a] 24)).alloc (.cells #[.slice none 0 0, .int .i64 0] 24))) := Lib.hid ((Ext.alloc _ _).to_alloc _)
  have hsz : Hid (((w.alloc (.cells #[.slice A n c, .int .i64 a] 24)).alloc (.cells #[.slice none 0 0, .int .i64 0] 24)).heap.size = w.heap.size + 2) := Lib.hid (by simp)
  have t1 : decide ((200 : Int) < (n : Int)) = true := by simp; omega
  go_enter Try.func14, Try.ntmps14
  go_upto_region 1 with fail
  generalize (w.alloc (.cells #[.slice A n c, .int .i64 a] 24)).alloc (.cells #[.slice none 0 0, .int .i64 0] 24) = W at *
  obtain ⟨c0, c1⟩ := cells2 b3.out
  obtain ⟨d0, d1⟩ := cells2 b6.out
  obtain ⟨f0, f1⟩ := frozen2 b6.out
  have hfin := Lib.hid (st2_blk b6.out (.slice none 0 0) (.int .i64 0))
  have hX := Lib.hid (st2_ext hx0.out (show w.heap.size ≤ w.heap.size + 1 by omega) (.slice none 0 0) (.int .i64 0))
  unfold st2 at hfin hX
  go_wp2_with fail
  refine bodyPost_ret (v := .tuple #[.agg #[.slice none 0 0, .int .i64 0], .int .i64 2]) ?_ rfl ⟨hX.out, 2, by decide, rfl⟩
  exact results_row_t1 rfl _ _ (w.heap.size + 1) 24 _ _ _ _ rfl rfl hfin.out Try.underlying24 rfl (line_size rfl)

set_option maxRecDepth 20000 in
set_option maxHeartbeats 8000000 in
theorem key_full {w : World} {A : Option Addr} {c a : Nat} {k : Int} {n : Nat} (hnc : n ≤ c) (hcm : c ≤ maxLen) (hn : n = 200) (ha : a ≤ 200) (hk1 : 32 ≤ k) (hk2 : k ≠ 127) :
    Calls Try.prog 14 #[.agg #[.slice A n c, .int .i64 (a : Int)], .int .i64 1, .int .i64 k] w (KeyNo w) := by
  unfold maxLen at hcm
  have b3 := Lib.hid ((Blk.new w 24 #[.slice A n c, .int .i64 (a : Int)]).ext (Ext.alloc _ (.cells #[.slice none 0 0, .int .i64 0] 24)))
  have b6 : Hid (Blk ((w.alloc (.cells #[.slice A n c, .int .i64 (a : Int)] 24)).alloc (.cells #[.slice none 0 0, .int .i64 0] 24)) (w.heap.size + 1) 24 #[.slice none 0 0, .int .i64 0]) := Lib.hid (by
    have := Blk.new (w.alloc (.cells #[.slice A n c, .int .i64 (a : Int)] 24)) 24 #[.slice none 0 0, .int .i64 0]
    rwa [World.size_alloc] at this)
  have hx0 : Hid (Ext w ((w.alloc (.cells #[.slice A n c, .int .i64 (a : Int)] 24)).alloc (.cells #[.slice none 0 0, .int .i64 0] 24))) := Lib.hid ((Ext.alloc _ _).to_alloc _)
  have hsz : Hid (((w.alloc (.cells #[.slice A n c, .int .i64 (a : Int)] 24)).alloc (.cells #[.slice none 0 0, .int .i64 0] 24)).heap.size = w.heap.size + 2) := Lib.hid (by simp)
  have t1 : decide ((200 : Int) < (n : Int)) = false := by simp; omega
  have t2 : ((n : Int) == 200) = true := by simp; omega
  have t3 : ((a : Int) < 0) = False := by simp
  have t4 : decide (n < a) = false := by simp; omega
  have t5 : decide ((n : Int) < (a : Int)) = false := by simp; omega
  have t6 : (k != 127) = true := by simpa using hk2
  clear hn hk2
  go_enter Try.func14, Try.ntmps14
  go_upto_region 1 with fail
  generalize (w.alloc (.cells #[.slice A n c, .int .i64 (a : Int)] 24)).alloc (.cells #[.slice none 0 0, .int .i64 0] 24) = W at *
  obtain ⟨c0, c1⟩ := cells2 b3.out
  obtain ⟨d0, d1⟩ := cells2 b6.out
  obtain ⟨f0, f1⟩ := frozen2 b6.out
  go_wp2_with fail
  go_quiet (fail)
  have b6q := Lib.hid (Blk.ext b6.out (Ext.drewN W nq))
  have hxq := Lib.hid (hx0.out.to_drewN nq)
  clear d0 d1 f0 f1 c0 c1 b3 b6 hx0 hsz
  revert b6q hxq
  generalize W.drewN nq = V
  intro b6q hxq
  obtain ⟨d0, d1⟩ := cells2 (b6q.out.ext (Ext.alloc V (.cells #[.int .i64 k] 3)))
  obtain ⟨f0, f1⟩ := frozen2 (b6q.out.ext (Ext.alloc V (.cells #[.int .i64 k] 3)))
  have hfin := Lib.hid (st2_blk (b6q.out.ext (Ext.alloc V (.cells #[.int .i64 k] 3))) (.slice none 0 0) (.int .i64 0))
  have hX := Lib.hid (st2_ext (hxq.out.to_alloc (.cells #[.int .i64 k] 3)) (show w.heap.size ≤ w.heap.size + 1 by omega) (.slice none 0 0) (.int .i64 0))
  unfold st2 at hfin hX
  go_wp2_with fail
  refine bodyPost_ret (v := .tuple #[.agg #[.slice none 0 0, .int .i64 0], .int .i64 8]) ?_ rfl ⟨hX.out, 8, by decide, rfl⟩
  exact results_row_t1 rfl _ _ (w.heap.size + 1) 24 _ _ _ _ rfl rfl hfin.out Try.underlying24 rfl (line_size rfl)

set_option maxRecDepth 20000 in
set_option maxHeartbeats 8000000 in
theorem key_del {w : World} {A : Option Addr} {n c a b : Nat} {l : List Int} (hl : Ints w A n c l) (hA : A = none → c = 0) (hn : n ≤ 200) (ha : a ≤ n) (hab : a = b + 1) :
    Calls Try.prog 14 #[.agg #[.slice A n c, .int .i64 (a : Int)], .int .i64 1, .int .i64 8] w (KeyIs (l.take b ++ l.drop a) b w) := by
  have HL := Lib.hid hl
  have hlen := Lib.hid hl.len
  have hnc := hl.ncap
  have hcm := hl.nmax
  unfold maxLen at hcm
  have b3 := Lib.hid ((Blk.new w 24 #[.slice A n c, .int .i64 (a : Int)]).ext (Ext.alloc _ (.cells #[.slice none 0 0, .int .i64 0] 24)))
  have b6 : Hid (Blk ((w.alloc (.cells #[.slice A n c, .int .i64 (a : Int)] 24)).alloc (.cells #[.slice none 0 0, .int .i64 0] 24)) (w.heap.size + 1) 24 #[.slice none 0 0, .int .i64 0]) := Lib.hid (by
    have := Blk.new (w.alloc (.cells #[.slice A n c, .int .i64 (a : Int)] 24)) 24 #[.slice none 0 0, .int .i64 0]
    rwa [World.size_alloc] at this)
  have hx0 : Hid (Ext w ((w.alloc (.cells #[.slice A n c, .int .i64 (a : Int)] 24)).alloc (.cells #[.slice none 0 0, .int .i64 0] 24))) := Lib.hid ((Ext.alloc _ _).to_alloc _)
  have hsz : Hid (((w.alloc (.cells #[.slice A n c, .int .i64 (a : Int)] 24)).alloc (.cells #[.slice none 0 0, .int .i64 0] 24)).heap.size = w.heap.size + 2) := Lib.hid (by simp)
  have t1 : decide ((200 : Int) < (n : Int)) = false := by simp; omega
  have t2 : (a : Int) - 1 = (b : Int) := by omega
  have t7 : ((a : Int) == 0) = false := by simp; omega
  have t3 : ((a : Int) < 0) = False := by simp
  have t4 : decide (n < a) = false := by simp; omega
  have t5 : decide ((n : Int) < (a : Int)) = false := by simp; omega
  have hba : b ≤ c := by omega
  have hbn : b ≤ n := by omega
  clear hl hab
  go_enter Try.func14, Try.ntmps14
  go_upto_region 1 with fail
  generalize (w.alloc (.cells #[.slice A n c, .int .i64 (a : Int)] 24)).alloc (.cells #[.slice none 0 0, .int .i64 0] 24) = W at *
  obtain ⟨c0, c1⟩ := cells2 b3.out
  go_wp2_with fail
  go_quiet (fail)
  have hV0 : Hid (Ext W (W.drewN nq)) := Lib.hid (Ext.drewN W nq)
  have hsV : Hid ((W.drewN nq).heap.size = W.heap.size) := Lib.hid (by simp)
  obtain ⟨e0, e1⟩ := cells2 (b3.out.ext hV0.out)
  generalize W.drewN nq = V at *
  go_wp2_with fail
  have HC : Hid (∀ (wq : World) (S : Option Addr), Ext V wq → Rd wq 1 S 3 3 [.slice A b c, .slice none 0 0, .slice (if c = a then A else Option.map (fun x => x.add a) A) (n - a) (c - a)] → Calls Try.prog 11 #[.slice S 3 3] wq fun e w' => ∃ B n d, e = .returned (.slice B n d) ∧ OwnI w' wq.heap.size B n d ((l.take b ++ l.drop a)) ∧ Ext wq w') := Lib.hid (fun wq S he hS => by
    have hl := (HL.out.ext (hx0.out.trans hV0.out)).ext he
    have h1 := concat_ok hS (Lists.three (hl.front hbn) (Ints.none_ _) (hl.cut ha (Nat.le_refl n))) rfl (by
      have := hlen.out
      simp
      omega)
    refine h1.mono fun e w' ⟨B, m, d, h2, h3, h4⟩ => ⟨B, m, d, h2, ?_, h4⟩
    have : (l.take b :: [] :: [(l.drop a).take (n - a)]).flatten = (l.take b ++ l.drop a) := by
      have hh : (l.drop a).take (n - a) = l.drop a := List.take_of_length_le (by rw [List.length_drop, hlen.out]; exact Nat.le_refl _)
      rw [hh]
      simp
    rw [← this]
    exact h3)
  have b3V := Lib.hid (Blk.ext b3.out hV0.out)
  have b6V := Lib.hid (Blk.ext b6.out hV0.out)
  have hxV := Lib.hid (hx0.out.trans hV0.out)
  clear c0 c1 b3 b6 e0 e1
  obtain ⟨c0, c1⟩ := cells2 b3V.out
  have c0' : V.drew.cell? ⟨w.heap.size, 0, none⟩ = some (.slice A n c) := c0
  have hac : a ≤ c := by omega
  have hsV2 : V.heap.size = W.heap.size := hsV.out
  have hRd1 : Hid (Rd (V.drew.alloc (.cells #[.slice A b c, .slice none 0 0, .slice (if c = a then A else Option.map (fun x => x.add a) A) (n - a) (c - a)] 22)) 1 (some ⟨V.heap.size, 0, none⟩) 3 3 [.slice A b c, .slice none 0 0, .slice (if c = a then A else Option.map (fun x => x.add a) A) (n - a) (c - a)]) := Lib.hid (Rd.litAt V.drew 22 _ rfl rfl (by omega))
  have hRd2 : Hid (Rd ((V.alloc (.cells #[.slice A b c, .slice none 0 0, .slice (if c = a then A else Option.map (fun x => x.add a) A) (n - a) (c - a)] 22)).drew) 1 (some ⟨V.heap.size, 0, none⟩) 3 3 [.slice A b c, .slice none 0 0, .slice (if c = a then A else Option.map (fun x => x.add a) A) (n - a) (c - a)]) := Lib.hid (Rd.ext (Rd.litAt V 22 _ rfl rfl (by omega)) (Ext.drew _))
  have hVz : w.heap.size + 1 < V.heap.size := by rw [hsV.out, hsz.out]; omega
  clear hV0 hsV hsV2 HL
  have hwa : IntKind.i64.wrap (b : Int) = (b : Int) := IntWalk.i64_in _ (by omega)
  go_region_law (first
    | (refine step_callf rfl 11 #[.slice (some ⟨V.heap.size, 0, none⟩) 3 3] rfl (by kernel_rfl) (fun v w' => ∃ B m d, v = .slice B m d ∧ OwnI w' (V.heap.size + 1) B m d ((l.take b ++ l.drop a)) ∧ Ext V w') ((HC.out _ _ ((Ext.drew V).to_alloc _) hRd1.out).mono fun e w' ⟨B, m, d, h1, h2, h3⟩ => ⟨_, h1, B, m, d, rfl, by simpa using h2, ((Ext.drew V).to_alloc _).trans h3⟩) ?_
       rintro v w3 ⟨B, m, d, rfl, ho3, he3⟩
       have hb6 := Blk.ext b6V.out he3
       obtain ⟨d0, d1⟩ := cells2 hb6
       obtain ⟨f0, f1⟩ := frozen2 hb6)
    | (refine step_callf rfl 11 #[.slice (some ⟨V.heap.size, 0, none⟩) 3 3] rfl (by kernel_rfl) (fun v w' => ∃ B m d, v = .slice B m d ∧ OwnI w' (V.heap.size + 1) B m d ((l.take b ++ l.drop a)) ∧ Ext V w') ((HC.out _ _ ((Ext.alloc V _).to_drew) hRd2.out).mono fun e w' ⟨B, m, d, h1, h2, h3⟩ => ⟨_, h1, B, m, d, rfl, by simpa using h2, ((Ext.alloc V _).to_drew).trans h3⟩) ?_
       rintro v w3 ⟨B, m, d, rfl, ho3, he3⟩
       have hb6 := Blk.ext b6V.out he3
       obtain ⟨d0, d1⟩ := cells2 hb6
       obtain ⟨f0, f1⟩ := frozen2 hb6))
  all_goals
    have hfin := Lib.hid (st2_blk hb6 (.slice B m d) (.int .i64 (b : Int)))
    have hX := Lib.hid (st2_ext (hxV.out.trans he3) (show w.heap.size ≤ w.heap.size + 1 by omega) (.slice B m d) (.int .i64 (b : Int)))
    have hO := Lib.hid (st2_own ho3 (show w.heap.size + 1 < V.heap.size + 1 by omega) (.slice B m d) (.int .i64 (b : Int)))
    unfold st2 at hfin hX hO
    clear hb6 d0 d1 f0 f1 he3 ho3
    go_simp
    go_wp2_with fail
    all_goals
      refine bodyPost_ret (v := .tuple #[.agg #[.slice B m d, .int .i64 (b : Int)], .int .i64 0]) ?_ rfl ⟨hX.out, B, m, d, rfl, Own.lower hO.out (by omega)⟩
      exact results_row_t1 rfl _ _ (w.heap.size + 1) 24 _ _ _ _ rfl rfl hfin.out Try.underlying24 rfl (line_size rfl)
end Go.Proofs.Ytmhgndjmcignjaa
