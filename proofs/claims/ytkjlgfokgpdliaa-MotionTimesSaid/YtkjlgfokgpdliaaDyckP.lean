/-
  The walks of dyck.other, Kind and Pairs.
-/
import Derived.Test.YtkjlgfokgpdliaaDyckM
import Derived.Test.YtkjlgfokgpdliaaMapV
import Derived.Test.YtkjlgfokgpdliaaLib
namespace Go.Proofs.Ytkjlgfokgpdliaa
open Go.RowKit
set_option linter.unusedVariables false

theorem ret_tup2 {u u' v v' : Value} (h1 : u = u') (h2 : v = v') : Ending.returned (.tuple #[u, v]) = .returned (.tuple #[u', v']) := by rw [h1, h2]
theorem num_eq {a b : Int} (h : a = b) : Value.int .i64 a = .int .i64 b := by rw [h]
theorem boo_eq {a b : Bool} (h : a = b) : Value.bool a = .bool b := by rw [h]

set_option maxHeartbeats 1000000 in
theorem other_ok (c : Int) (w : World) : Calls Try.prog 30 #[.int .i64 c] w fun e w' => e = .returned (.tuple #[.int .i64 (othF c), .bool (cloF c)]) ∧ w = w' := by
  by_cases h1 : c = 40
  · subst h1
    go_enter Try.func30, Try.ntmps30
    go_wp2_with fail
    go_ret2
    exact ⟨rfl, rfl⟩
  by_cases h2 : c = 91
  · subst h2
    go_enter Try.func30, Try.ntmps30
    go_wp2_with fail
    go_ret2
    exact ⟨rfl, rfl⟩
  by_cases h3 : c = 123
  · subst h3
    go_enter Try.func30, Try.ntmps30
    go_wp2_with fail
    go_ret2
    exact ⟨rfl, rfl⟩
  by_cases h4 : c = 41
  · subst h4
    go_enter Try.func30, Try.ntmps30
    go_wp2_with fail
    go_ret2
    exact ⟨rfl, rfl⟩
  by_cases h5 : c = 93
  · subst h5
    go_enter Try.func30, Try.ntmps30
    go_wp2_with fail
    go_ret2
    exact ⟨rfl, rfl⟩
  by_cases h6 : c = 125
  · subst h6
    go_enter Try.func30, Try.ntmps30
    go_wp2_with fail
    go_ret2
    exact ⟨rfl, rfl⟩
  have k1 : (c == 40) = false := by simpa using h1
  have k2 : (c == 91) = false := by simpa using h2
  have k3 : (c == 123) = false := by simpa using h3
  have k4 : (c == 41) = false := by simpa using h4
  have k5 : (c == 93) = false := by simpa using h5
  have k6 : (c == 125) = false := by simpa using h6
  have e1 : Hid (othF c = 0) := by show othF c = 0; unfold othF; simp [h1, h2, h3, h4, h5, h6]
  have e2 : Hid (cloF c = false) := by show cloF c = false; unfold cloF; simp [h4, h5, h6]
  clear h1 h2 h3 h4 h5 h6
  go_enter Try.func30, Try.ntmps30
  go_wp2_with fail
  go_ret2
  exact ⟨ret_tup2 (num_eq e1.out.symm) (boo_eq e2.out.symm), rfl⟩

theorem kind_ok (c : Int) (w : World) : Calls Try.prog 17 #[.int .i64 c] w fun e w' => e = .returned (.tuple #[.int .i64 (othF c), .bool (cloF c)]) ∧ w = w' := by
  go_enter Try.func17, Try.ntmps17
  go_wp2_with fail
  refine (other_ok _ _).mono ?_
  rintro e w1 ⟨rfl, rfl⟩
  go_wp2_with fail
  go_ret2
  exact ⟨rfl, rfl⟩

/-- A list of places as numbers. -/
def nums (l : List Nat) : List Int := l.map fun x : Nat => (x : Int)
theorem nums_len (l : List Nat) : (nums l).length = l.length := by simp [nums]

theorem sorted_len : ∀ {s : List Nat} {j : Nat}, s.Pairwise (· < ·) → (∀ x ∈ s, x < j) → s.length ≤ j
  | [], _, _, _ => Nat.zero_le _
  | x :: s, j, h, hj => by
    have h1 := List.pairwise_cons.1 h
    have h2 : (s.map (· - (x + 1))).length ≤ j - (x + 1) := by
      rw [List.length_map]
      have := @sorted_len (s.map (· - (x + 1))) (j - (x + 1)) (by
        rw [List.pairwise_map]
        refine List.Pairwise.imp_of_mem ?_ h1.2
        intro a b ha hb hab
        have := h1.1 a ha
        omega) (by
        intro y hy
        obtain ⟨z, hz, rfl⟩ := List.mem_map.1 hy
        have := h1.1 z hz
        have := hj z (by simp [hz])
        omega)
      rwa [List.length_map] at this
    rw [List.length_map] at h2
    have := hj x (by simp)
    simp only [List.length_cons]
    omega
  termination_by s => s.length
  decreasing_by simp

/-- The stacks in memory: a map b of rows that lie from block B on. -/
def StkW (w : World) (B b cnt : Nat) (st : Int → List Nat) : Prop :=
  ∃ f, MapV w (.slice none 0 0) b cnt f ∧ (∀ c, ∃ A k cap, f c = .slice A k cap ∧ OwnI w B A k cap (nums (st c))) ∧ (∀ c c', c ≠ c' → (f c).ownBlock = none ∨ (f c).ownBlock ≠ (f c').ownBlock)

theorem StkW.start (w : World) (B : Nat) : StkW (w.alloc (.map #[] 0)) B w.heap.size 0 (fun _ => []) :=
  ⟨_, MapV.made w _, fun c => ⟨none, 0, 0, rfl, OwnI.nil _ _⟩, fun c c' _ => .inl rfl⟩
theorem StkW.setCell {w : World} {B b cnt : Nat} {st : Int → List Nat} (h : StkW w B b cnt st) {p : Addr} (hb : p.block ≠ b) (hB : p.block < B) (u : Value) : StkW (w.setCell p u) B b cnt st := by
  obtain ⟨f, h1, h2, h3⟩ := h
  refine ⟨f, h1.setCell hb u, fun c => ?_, h3⟩
  obtain ⟨A, k, cap, e, ho⟩ := h2 c
  exact ⟨A, k, cap, e, Own.setCell ho hB u⟩

/-- Behind a push, or a pop, of the stack c: the row lies where it lay, or anew; the map has it. -/
theorem StkW.turned {w w2 w3 : World} {B b cnt : Nat} {st : Int → List Nat} {f : Int → Value} {c : Int} {A A' : Option Addr} {k cap k' cap' : Nat} {v : List Nat}
    (h1 : MapV w (.slice none 0 0) b cnt f) (h2 : ∀ c, ∃ A k cap, f c = .slice A k cap ∧ OwnI w B A k cap (nums (st c))) (h3 : ∀ c c', c ≠ c' → (f c).ownBlock = none ∨ (f c).ownBlock ≠ (f c').ownBlock)
    (hf : f c = .slice A k cap) (hnew : OwnI w2 B A' k' cap' (nums v)) (hg : w.grownBy w2 (Value.slice A k cap).ownBlock)
    (hat : (Value.slice A' k' cap').ownBlock = (Value.slice A k cap).ownBlock ∨ ∃ g, w.heap.size ≤ g ∧ (Value.slice A' k' cap').ownBlock = some g)
    (hm : MapV w3 (.slice none 0 0) b (cnt + 1) (updV f c (.slice A' k' cap'))) (hm2 : MapV w2 (.slice none 0 0) b cnt f) (hg3 : w2.grownBy w3 (some b)) : StkW w3 B b (cnt + 1) (updL st c v) := by
  have keep : ∀ {A k cap} {l : List Int}, OwnI w2 B A k cap l → OwnI w3 B A k cap l := fun {A k cap l} ho =>
    Own.kept ho hg3 (.inr fun e => hm2.ne_own ho e.symm)
  refine ⟨_, hm, fun x => ?_, fun x y hxy => ?_⟩
  · by_cases e : x = c
    · subst e
      exact ⟨A', k', cap', updV_same _ _ _, by unfold updL; rw [if_pos rfl]; exact keep hnew⟩
    · obtain ⟨Ax, kx, cx, ex, hx⟩ := h2 x
      refine ⟨Ax, kx, cx, (updV_other _ _ e).trans ex, ?_⟩
      unfold updL
      rw [if_neg e]
      refine keep (Own.kept hx hg ?_)
      have := h3 x c e
      rw [ex, hf] at this
      exact this
  · have old : ∀ z, z ≠ c → (updV f c (.slice A' k' cap') z).ownBlock = none ∨ (updV f c (.slice A' k' cap') z).ownBlock ≠ (Value.slice A' k' cap').ownBlock := by
      intro z hz
      rw [updV_other _ _ hz]
      obtain ⟨Az, kz, cz, ez, hoz⟩ := h2 z
      rcases hat with ha | ⟨g, hg1, ha⟩
      · rw [ha]
        have := h3 z c hz
        rwa [hf] at this
      · right
        rw [ha, ez]
        intro e
        have := (Own.blk hoz g e).2
        omega
    by_cases e : x = c
    · subst e
      rw [updV_same]
      have hy := old y (fun e => hxy e.symm)
      rcases hy with hy | hy
      · rw [hy]
        cases (Value.slice A' k' cap').ownBlock with
        | none => exact .inl rfl
        | some g => exact .inr (by simp)
      · exact .inr (fun e => hy e.symm)
    · by_cases e2 : y = c
      · subst e2
        rw [updV_same]
        exact old x e
      · rw [updV_other _ _ e, updV_other _ _ e2]
        exact h3 x y hxy

theorem nil_zero (w : World) : (zeroValue 22).run Try.prog w = .ok (.slice none 0 0) w := by kernel_rfl

set_option maxHeartbeats 4000000 in
theorem pairs_ok {l : List Int} {A : Option Addr} {n c : Nat} {w : World} (hl : Ints w A n c l) (wl : ∀ x ∈ l, (Lit.int .i64 x).wf = true) (hn : n ≤ 4096) :
    Calls Try.prog 18 #[.slice A n c] w fun e w' => ∃ g, e = .returned (.tuple #[.slice (some ⟨g, 0, none⟩) n n, .int .i64 0]) ∧ Blk w' g 3 ((pairsF l).map (Value.int .i64)).toArray ∧ w.heap.size ≤ g ∧ Ext w w' := by
  obtain ⟨i0, hi, hz0, hz1, hz2⟩ := info_parts info_int
  have hmm := @run_makeMap Try.prog
  have hlen := Lib.hid hl.len
  have hmk : ∀ u : World, (Instr.makeSlice 22 (.int .i64 (n : Int)) (.int .i64 (n : Int))).run Try.prog u =
      .ok (.slice (some ⟨u.heap.size, 0, none⟩) n n) (u.alloc (.cells (madeCells #[.int .i64 0] n) 3)) := fun u => by
    have h := run_make (P := Try.prog) u 22 3 i0 (.int .i64 0) Try.underlying22 hi hz0 .i64 .i64 (n : Int) (n : Int) (by omega) (Int.le_refl _) (by rw [hz2]; omega) (by omega)
    simpa [hz1, Value.cells] using h
  have ws := (Ext.alloc w (.cells (madeCells #[.int .i64 0] n) 3)).hsize
  go_enter Try.func18, Try.ntmps18
  go_wp2_with fail
  go_loopw [20] (fun i wr => ∃ (j cnt : Nat), j ≤ n ∧ cnt ≤ j ∧ i = .int .i64 j ∧ Blk wr w.heap.size 3 ((prow l j).map (Value.int .i64)).toArray ∧ StkW wr (w.heap.size + 2) (w.heap.size + 1) cnt (drun l j).1 ∧ Ext w wr) (fun i _ => n - (intOf i).toNat)
  case atStart =>
    refine ⟨0, 0, by omega, by omega, rfl, ?_, ?_, (Ext.alloc _ _).to_alloc _⟩
    · refine Blk.ext ?_ (Ext.alloc _ _)
      rw [prow_start, hlen.out, ← made_ints]
      exact Blk.new _ _ _
    · have := StkW.start (w.alloc (.cells (madeCells #[.int .i64 0] n) 3)) (w.heap.size + 2)
      have e0 : (drun l 0).1 = fun _ => [] := rfl
      rw [e0]
      simpa using this
  case round =>
    obtain ⟨j, cnt, hj, hcnt, rfl, hb, hst, he⟩ := hrel
    by_cases hlt : j < n
    · obtain ⟨ad, rfl, hc⟩ := hl.at_ hlt
      have cj := he.cell (hc j hlt)
      have c1 := blk_cell hb (k := j) (by rw [prow_len, hlen.out]; exact hlt)
      have f1 := hb.frozen j
      clear hc
      go_wp2_with fail
      refine (other_ok _ _).mono ?_
      rintro e w2 ⟨rfl, hw2⟩
      have hb2 : Blk w2 w.heap.size 3 (((prow l j).set j (-1)).map (Value.int .i64)).toArray := by rw [← hw2]; exact blk_store hb j (-1)
      have hst2 : StkW w2 (w.heap.size + 2) (w.heap.size + 1) cnt (drun l j).1 := by
        rw [← hw2]; exact hst.setCell (by show w.heap.size ≠ _; omega) (by show w.heap.size < _; omega) _
      have he2 : Ext w w2 := by rw [← hw2]; exact he.setCell (Nat.le_refl _) _
      clear hw2 hb hst he cj c1 f1
      have hwf : (Lit.int .i64 (gI l j)).wf = true := wl _ (by
        have : j < l.length := by rw [hlen.out]; exact hlt
        simp [gI, this])
      have hDI := drun_DI l j
      have hs1 : drun l (j + 1) = dstep (gI l j) j (drun l j) := rfl
      by_cases ho : othF (gI l j) = 0
      · have e1 : (othF (gI l j) == 0) = true := by simpa using ho
        have hs : drun l (j + 1) = ((drun l j).1, updN (drun l j).2 j (-1)) := by rw [hs1, dstep_plain ho]
        have hb3 : Blk w2 w.heap.size 3 ((prow l (j + 1)).map (Value.int .i64)).toArray := by rw [prow_plain (by rw [hs])]; exact hb2
        have hst3 : StkW w2 (w.heap.size + 2) (w.heap.size + 1) cnt (drun l (j + 1)).1 := by rw [hs]; exact hst2
        clear hs hs1 hDI ho hb2 hst2
        go_wp2_with fail
        go_roundw
        case rel => exact ⟨j + 1, cnt, by omega, by omega, by go_num, hb3, hst3, he2⟩
        case measure => simp [intOf]; omega
      have e1 : (othF (gI l j) == 0) = false := by simpa using ho
      cases hclo : cloF (gI l j) with
      | false =>
        have hs : drun l (j + 1) = (updL (drun l j).1 (gI l j) ((drun l j).1 (gI l j) ++ [j]), updN (drun l j).2 j (-1)) := by rw [hs1, dstep_push ho hclo]
        have hb3 : ∀ w3, Blk w3 w.heap.size 3 (((prow l j).set j (-1)).map (Value.int .i64)).toArray → Blk w3 w.heap.size 3 ((prow l (j + 1)).map (Value.int .i64)).toArray := fun w3 h => by rw [prow_plain (by rw [hs])]; exact h
        have HB3 := Lib.hid hb3
        obtain ⟨f, m1, m2, m3⟩ := hst2
        obtain ⟨C, k, cap, ef, hown⟩ := m2 (gI l j)
        have hget := m1.get Try.underlying57 (nil_zero w2) hwf
        rw [ef] at hget
        have hkl : k ≤ j := by
          have h1 := hown.ints.len
          have h2 := hDI.mem (gI l j)
          have h3 := hDI.sorted (gI l j)
          rw [nums_len] at h1
          rw [← h1]
          exact sorted_len h3 (fun x hx => (h2 x hx).1)
        have HS := Lib.hid hs
        clear hs hs1 hDI ho hb3
        go_wp2_with (at_builtin; refine wpList_push rfl (.tmp 43) (.tmp 45) 22 rfl w (w.heap.size + 2) 3 i0 (.int .i64 0) 1 8 Try.underlying22 hi hz0 hz1 hz2 rfl (by decide) C k cap _ rfl hown _ rfl ?_ rfl ?_ ?_ he2 (by omega) ?_ ?_)
        · rfl
        · unfold maxLen; omega
        · omega
        · have := hb2.lt
          have := m1.lt
          omega
        · intro C' cap' w3 hown' hgr hat he3
          have hown3 : OwnI w3 (w.heap.size + 2) C' (k + 1) cap' (nums ((drun l j).1 (gI l j) ++ [j])) := by
            simpa [OwnI, nums] using hown'
          have m13 := m1.grown hgr (m1.ne_own hown)
          have hb4 : Blk w3 w.heap.size 3 (((prow l j).set j (-1)).map (Value.int .i64)).toArray := hb2.grown hgr (fun e => by
            have := (Own.blk hown _ e.symm).1
            omega)
          obtain ⟨w4, hrun, m14, hg4, he4⟩ := m13.put Try.underlying57 (by unfold maxLen; omega) (gI l j) (.slice C' (k + 1) cap') hwf he3 (by omega)
          have hst4 := StkW.turned (c := gI l j) m1 m2 m3 ef hown3 hgr hat m14 m13 hg4
          have hb5 := HB3.out _ (hb4.grown hg4 (by simp))
          have hst5 : StkW w4 (w.heap.size + 2) (w.heap.size + 1) (cnt + 1) (drun l (j + 1)).1 := by rw [HS.out]; exact hst4
          clear hget m1 m2 m3 ef hown hown' hgr hat hown3 m13 m14 hg4 hst4 hb2 hb4 he2 he3
          go_wp2_with fail
          go_roundw
          case rel => exact ⟨j + 1, cnt + 1, by omega, by omega, by go_num, hb5, hst5, he4⟩
          case measure => simp [intOf]; omega
      | true =>
        have hob := oth_bd (gI l j)
        have hwo : (Lit.int .i64 (othF (gI l j))).wf = true := wf_i64' (by omega) (by omega)
        cases hlast : ((drun l j).1 (othF (gI l j))).getLast? with
        | none =>
          have hnil := List.getLast?_eq_none_iff.1 hlast
          have hs : drun l (j + 1) = ((drun l j).1, updN (drun l j).2 j (-1)) := by rw [hs1, dstep_miss ho hclo hnil]
          have hb3 : Blk w2 w.heap.size 3 ((prow l (j + 1)).map (Value.int .i64)).toArray := by rw [prow_plain (by rw [hs])]; exact hb2
          have hst3 : StkW w2 (w.heap.size + 2) (w.heap.size + 1) cnt (drun l (j + 1)).1 := by rw [hs]; exact hst2
          obtain ⟨f, m1, m2, m3⟩ := hst2
          obtain ⟨C, k, cap, ef, hown⟩ := m2 (othF (gI l j))
          have hget := m1.get Try.underlying57 (nil_zero w2) hwo
          rw [ef] at hget
          have hk0 : k = 0 := by
            have := hown.ints.len
            rw [hnil, nums_len] at this
            simpa using this.symm
          subst hk0
          clear hs hs1 hDI ho hb2 hnil hlast m1 m2 m3 ef hown
          go_wp2_with fail
          go_roundw
          case rel => exact ⟨j + 1, cnt, by omega, by omega, by go_num, hb3, hst3, he2⟩
          case measure => simp [intOf]; omega
        | some kk =>
          have hs : drun l (j + 1) = (updL (drun l j).1 (othF (gI l j)) ((drun l j).1 (othF (gI l j))).dropLast, updN (updN (drun l j).2 j kk) kk j) := by rw [hs1, dstep_pop ho hclo hlast]
          have hkj := (hDI.pop ho hclo hlast).2
          obtain ⟨f, m1, m2, m3⟩ := hst2
          obtain ⟨C, k, cap, ef, hown⟩ := m2 (othF (gI l j))
          have hget := m1.get Try.underlying57 (nil_zero w2) hwo
          rw [ef] at hget
          have hklen : ((drun l j).1 (othF (gI l j))).length = k := by have := hown.ints.len; rwa [nums_len] at this
          have hsplit := dropLast_snoc hlast
          have hk0 : 0 < k := by rw [← hklen, ← hsplit]; simp
          have hkl : k ≤ 4096 := by
            have h3 := sorted_len (hDI.sorted (othF (gI l j))) (fun x hx => (hDI.mem _ x hx).1)
            omega
          obtain ⟨ca, rfl, hcell⟩ := hown.ints.at_ hk0
          have hkcap := hown.ints.ncap
          have cl : w2.cell? (ca.add (k - 1)) = some (.int .i64 kk) := by
            rw [hcell (k - 1) (by omega)]
            have e1 : k - 1 = ((drun l j).1 (othF (gI l j))).dropLast.length := by rw [List.length_dropLast, hklen]
            have e2 : gI (nums ((drun l j).1 (othF (gI l j)))) (k - 1) = kk := by
              rw [← hsplit, e1]
              unfold nums gI
              simp
            rw [e2]
          obtain ⟨w3, hrun, m13, hg3, he3⟩ := m1.put Try.underlying57 (by unfold maxLen; omega) (othF (gI l j)) (.slice (some ca) (k - 1) cap) hwo he2 (by omega)
          have hown2 : OwnI w2 (w.heap.size + 2) (some ca) (k - 1) cap (nums ((drun l j).1 (othF (gI l j))).dropLast) := by
            have h1 := Own.pop hown (k := k - 1) (by omega) hk0
            have e3 : nums ((drun l j).1 (othF (gI l j))).dropLast = (nums ((drun l j).1 (othF (gI l j)))).take (k - 1) := by
              unfold nums
              rw [← List.map_take, List.dropLast_eq_take, hklen]
            unfold OwnI
            rw [e3, List.map_take]
            exact h1
          have hst4 := StkW.turned (c := othF (gI l j)) m1 m2 m3 ef hown2 (World.grownBy.refl w2 _) (.inl rfl) m13 m1 hg3
          have hb3 := hb2.grown hg3 (by simp)
          have x1 := blk_cell hb3 (k := j) (by rw [List.length_set, prow_len, hlen.out]; exact hlt)
          have f1 := hb3.frozen j
          have hb4 := blk_store hb3 j kk
          have x2 := blk_cell hb3 (k := kk) (by rw [List.length_set, prow_len, hlen.out]; omega)
          have f2 := hb3.frozen kk
          have hb5 := blk_store hb4 kk j
          rw [← prow_pop hkj (by rw [hs])] at hb5
          have hst5 : StkW ((w3.setCell ⟨w.heap.size, j, none⟩ (.int .i64 kk)).setCell ⟨w.heap.size, kk, none⟩ (.int .i64 j)) (w.heap.size + 2) (w.heap.size + 1) (cnt + 1) (drun l (j + 1)).1 := by
            rw [hs]
            exact (hst4.setCell (by show w.heap.size ≠ _; omega) (by show w.heap.size < _; omega) _).setCell (by show w.heap.size ≠ _; omega) (by show w.heap.size < _; omega) _
          have he5 := (he3.setCell (p := ⟨w.heap.size, j, none⟩) (Nat.le_refl _) (.int .i64 kk)).setCell (p := ⟨w.heap.size, kk, none⟩) (Nat.le_refl _) (.int .i64 j)
          have hne : ¬ kk = j := by omega
          have hne2 : ¬ j = kk := by omega
          clear hs hs1 hDI ho hb2 hlast m1 m2 m3 m13 ef hown hown2 hst4 hb3 hb4 hcell hsplit hklen hg3
          go_wp2_with fail
          go_roundw
          case rel => exact ⟨j + 1, cnt + 1, by omega, by omega, by go_num, hb5, hst5, he5⟩
          case measure => simp [intOf]; omega
    · obtain rfl : j = n := by omega
      go_wp2_with fail
      go_ret2
      exact ⟨_, rfl, by rw [← prow_end, hlen.out]; exact hb, Nat.le_refl _, he⟩
theorem pairs_ints {l : List Int} {A : Option Addr} {n c : Nat} {w : World} (hl : Ints w A n c l) (wl : ∀ x ∈ l, (Lit.int .i64 x).wf = true) (hn : n ≤ 4096) :
    Calls Try.prog 18 #[.slice A n c] w fun e w' => ∃ B, e = .returned (.tuple #[.slice B n n, .int .i64 0]) ∧ Ints w' B n n (pairsF l) ∧ Ext w w' :=
  (pairs_ok hl wl hn).mono fun e w' ⟨g, h1, h2, h3, h4⟩ => ⟨_, h1, h2.ints (by rw [pairsF_len, hl.len]) (by unfold maxLen; omega), h4⟩

set_option maxHeartbeats 400000 in
theorem pairs_large {A : Option Addr} {n c : Nat} {w : World} (hn : 4096 < n) (hm : n ≤ maxLen) :
    Calls Try.prog 18 #[.slice A n c] w fun e w' => e = .returned (.tuple #[.slice none 0 0, .int .i64 2]) ∧ w = w' := by
  unfold maxLen at hm
  go_enter Try.func18, Try.ntmps18
  go_wp2_with fail
  go_ret2
  exact ⟨rfl, rfl⟩
theorem chars_wf (s : ByteArray) : ∀ x ∈ chars s, (Lit.int .i64 x).wf = true := by
  intro x hx
  unfold chars at hx
  obtain ⟨b, _, rfl⟩ := List.mem_map.1 hx
  have := b.toNat_lt
  exact wf_i64' (by omega) (by omega)
end Go.Proofs.Ytkjlgfokgpdliaa
