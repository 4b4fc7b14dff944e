/-
  The doer's move: by a motion, or an operation to where it leads.
-/
import Derived.Test.YtmhgndjmcignjaaZDoS
import Derived.Test.YtmhgndjmcignjaaZJ14

namespace Go.Proofs.Ytmhgndjmcignjaa
open Go.RowKit
set_option linter.unusedVariables false
set_option linter.unusedSimpArgs false

/-- What found tells. -/
def FoundIs (fk fa v arg mk ma zk za er : Int) : Prop := (er = 0 ∧ foundF' fk fa v arg = some (mk, ma, zk, za)) ∨ (er = 5 ∧ foundF' fk fa v arg = none)
theorem goPost_three {l : List Int} {n : Nat} {k key cnt arg : Int} {op : Bool} {e : Ending} (h : goPost l n k key cnt arg op e) : ∃ (x : Int) (i : Bool) (er : Int), e = .returned (.tuple #[.int .i64 x, .bool i, .int .i64 er]) := by
  rcases h with ⟨_, o, _, rfl⟩ | ⟨_, er, _, rfl⟩
  · rcases o with _ | ⟨a, i⟩
    · exact ⟨0, false, 5, rfl⟩
    · exact ⟨a, i, 0, rfl⟩
  · exact ⟨0, false, er, rfl⟩
theorem rangePost_three {l : List Int} {n : Nat} {k key cnt arg : Int} {e : Ending} (h : rangePost l n k key cnt arg e) : ∃ (x y er : Int), e = .returned (.tuple #[.int .i64 x, .int .i64 y, .int .i64 er]) := by
  rcases range_says h with ⟨er, _, rfl⟩ | ⟨lo, hi, _, _, _, _, rfl⟩
  · exact ⟨0, 0, er, rfl⟩
  · exact ⟨lo, hi, 0, rfl⟩
/-- Where a motion without an operator leads. -/
def GoIs (l : List Int) (n a : Nat) (key cnt arg : Int) (x : Int) : Prop := okM n a key cnt ∧ ∃ (y : Nat) (i : Bool), goR l a key arg (max 1 cnt).toNat false (some (y, i)) ∧ y ≤ n - 1 ∧ x = y
theorem goPost_ok {l : List Int} {n a : Nat} {key cnt arg x : Int} {i : Bool} {er : Int} (hl : l.length = n) (h : goPost l n a key cnt arg false (.returned (.tuple #[.int .i64 x, .bool i, .int .i64 er]))) :
    (er = 0 ∧ GoIs l n a key cnt arg x) ∨ (er ≠ 0 ∧ ¬ (okM n a key cnt ∧ ¬ goR l a key arg (max 1 cnt).toNat false none)) := by
  rcases h with ⟨hok, o, hR, he⟩ | ⟨hno, er', h1, he⟩
  · rcases o with _ | ⟨y, j⟩
    · rw [outG_none] at he
      injection he with he; injection he with he
      simp at he
      obtain ⟨_, _, rfl⟩ := he
      exact .inr ⟨by decide, fun h => h.2 hR⟩
    · rw [outG_some] at he
      injection he with he; injection he with he
      simp at he
      obtain ⟨rfl, rfl, rfl⟩ := he
      have hok' := hok
      obtain ⟨_, b1, b2, _⟩ := hok
      have := goR_bd (l := l) (k := a) (by rw [hl]; omega) (by omega) hR rfl
      rw [hl] at this
      exact .inl ⟨rfl, hok', y, i, hR, this.2.1 rfl, rfl⟩
  · injection he with he; injection he with he
    simp at he
    obtain ⟨_, _, rfl⟩ := he
    exact .inr ⟨by simpa using h1, fun h => hno h.1⟩
/-- The span of a motion. -/
def RangeIs (l : List Int) (n a : Nat) (key cnt arg : Int) (f t : Nat) : Prop := okM n a key cnt ∧ ∃ (x : Nat) (i : Bool), goR l a key arg (max 1 cnt).toNat true (some (x, i)) ∧ x ≤ n ∧ (i = true → x < n) ∧ f = min a x ∧ t = max a x + (if i = true then 1 else 0)
theorem RangeIs.bd {l : List Int} {n a : Nat} {key cnt arg : Int} {f t : Nat} (h : RangeIs l n a key cnt arg f t) (ha : a ≤ n - 1) : f ≤ a ∧ a ≤ t ∧ f ≤ t ∧ t ≤ n := by
  obtain ⟨⟨_, _, _, _⟩, x, i, _, h1, h2, rfl, rfl⟩ := h
  cases i
  · simp; omega
  · have := h2 rfl
    simp
    omega
theorem rangePost_ok {l : List Int} {n a : Nat} {key cnt arg x y er : Int} (h : rangePost l n a key cnt arg (.returned (.tuple #[.int .i64 x, .int .i64 y, .int .i64 er]))) :
    (er = 0 ∧ ∃ f t : Nat, x = f ∧ y = t ∧ RangeIs l n a key cnt arg f t) ∨ (er ≠ 0 ∧ ¬ (okM n a key cnt ∧ ¬ goR l a key arg (max 1 cnt).toNat true none)) := by
  rcases h with ⟨er', h1, he, h2⟩ | ⟨hok, z, i, hR, hz, hi, lo, hi', h1, h2, he⟩
  · injection he with he; injection he with he
    simp at he
    obtain ⟨_, _, rfl⟩ := he
    exact .inr ⟨by simpa using h1, fun h => h.2 (h2 h.1)⟩
  · injection he with he; injection he with he
    simp at he
    obtain ⟨rfl, rfl, rfl⟩ := he
    refine .inl ⟨rfl, min a z, max a z + (if i = true then 1 else 0), ?_, ?_, hok, z, i, hR, hz, hi, rfl, rfl⟩
    · rw [h1]; omega
    · rw [h2]; split <;> omega
theorem OutIs.setFind {w : World} {b : Nat} {cs : Array Value} {m : List Int} {at_ md fk fa : Int} {rl : Nat → List Int} {e : List Spl} (h : OutIs w b cs m at_ md fk fa rl e) (zk za : Int) : OutIs w b (seg cs 63 #[.int .i64 zk, .int .i64 za]) m at_ md zk za rl e := by
  have hz : 63 + (#[.int .i64 zk, .int .i64 za] : Array Value).size ≤ cs.size := by rw [h.size]; exact (by decide : 65 ≤ 67)
  have hs : (#[.int .i64 zk, .int .i64 za] : Array Value).size = 2 := rfl
  exact {
    size := by rw [seg_size hz]; exact h.size
    text := by rw [seg_get hz, if_pos (by omega)]; exact h.text
    oat := by rw [seg_get hz, if_pos (by omega)]; exact h.oat
    regs := fun j hj => by rw [seg_get hz, if_pos (by omega)]; exact h.regs j hj
    c63 := by rw [seg_get hz, if_neg (by omega), if_pos (by rw [hs]; omega)]; rfl
    c64 := by rw [seg_get hz, if_neg (by omega), if_pos (by rw [hs]; omega)]; rfl
    c65 := by rw [seg_get hz, if_neg (by omega), if_neg (by rw [hs]; omega)]; exact h.c65
    edit := by rw [seg_get hz, if_neg (by omega), if_neg (by rw [hs]; omega)]; exact h.edit
    far := fun B q d h34 g' hg' => by
      rw [seg_get hz, if_pos (by omega)] at h34
      obtain ⟨h1, v, h2, h3⟩ := h.far B q d h34 g' hg'
      refine ⟨fun j hj v hv => ?_, v, by rw [seg_get hz, if_neg (by omega), if_neg (by rw [hs]; omega)]; exact h2, h3⟩
      rw [seg_get hz, if_pos (by omega)] at hv
      exact h1 j hj v hv }
theorem MidIs.setFind {w0 w : World} {g : Nat} {cs0 cs : Array Value} {m : List Int} {at_ md fk fa : Int} {rl : Nat → List Int} {e : List Spl} (h : MidIs w0 g cs0 w cs m at_ md fk fa rl e) (zk za : Int) :
    MidIs w0 g cs0 (w.setRow g (seg cs 63 #[.int .i64 zk, .int .i64 za])) (seg cs 63 #[.int .i64 zk, .int .i64 za]) m at_ md zk za rl e :=
  ⟨Blk.setRow h.blk _, (h.out.grown (setRow_grown w g _) (Nat.lt_succ_self g)).setFind zk za, fun k hk => by rw [seg_get (by rw [h.out.size]; exact (by decide : 65 ≤ 67)), if_pos (by omega)]; exact h.same k hk, grows_trans h.grown (setRow_grown w g _)⟩

/-- When a motion does well. -/
def MoveOk (l : List Int) (n a : Nat) (rl : Nat → List Int) (k1 k2 k3 k4 k5 fk fa : Int) : Prop :=
  ∃ mk ma zk za, foundF' fk fa k4 k5 = some (mk, ma, zk, za) ∧ okM n a mk k1 ∧ ¬ goR l a mk ma (max 1 k1).toNat (decide (k3 ≠ 0)) none ∧ (k3 ≠ 0 → ∀ f t, RangeIs l n a mk k1 ma f t → OpOk l rl k2 k3 f t)
/-- What a motion makes. -/
def MovePost (g : Nat) (l : List Int) (n a : Nat) (rl : Nat → List Int) (k1 k2 k3 k4 k5 fk fa : Int) (w : World) (cs : Array Value) : Prop :=
  ∃ mk ma zk za, foundF' fk fa k4 k5 = some (mk, ma, zk, za) ∧
  ((k3 = 0 ∧ ∃ x, GoIs l n a mk k1 ma x ∧ OutIs w (g + 1) cs l x 0 zk za rl []) ∨
   (k3 ≠ 0 ∧ ∃ f t m at_ md rl' e, RangeIs l n a mk k1 ma f t ∧ OutIs w (g + 1) cs m at_ md zk za rl' e ∧ OpRel l a rl k2 k3 f t false m at_ md rl' e))

set_option maxRecDepth 20000 in
set_option maxHeartbeats 8000000 in
theorem move_ok {v0 w : World} {g n c a : Nat} {cs rs : Array Value} {A : Option Addr} {l : List Int} {rl : Nat → List Int} {k1 k2 k3 k4 k5 fk fa : Int} (h : CmdIn v0 w g cs A n c a rs rl k1 k2 k3 k4 k5 fk fa l) (hk3 : k3 = 0 ∨ k3 = 100 ∨ k3 = 99 ∨ k3 = 121) :
    Calls Try.prog 29 #[.pointer (some ⟨g, 0, none⟩)] w (DoneIs g w (MoveOk l n a rl k1 k2 k3 k4 k5 fk fa) (MovePost g l n a rl k1 k2 k3 k4 k5 fk fa)) := by
  obtain ⟨h0, h1, hrs, h29, h30, h31, h32, h33⟩ := h.cells
  have HB := Lib.hid h.blk
  have HV63 : Hid (∀ j v, (#[.int .i64 fk, .int .i64 fa] : Array Value)[j]? = some v → cs[63 + j]? = some v) := Lib.hid (by
    have h3 := h.mid.out
    intro j v hj
    match j, hj with
    | 0, hj => rw [← hj]; exact h3.c63
    | 1, hj => rw [← hj]; exact h3.c64
    | j + 2, hj => cases hj)
  have HV29 : Hid (∀ j v, (#[.int .i64 k1, .int .i64 k2, .int .i64 k3, .int .i64 k4, .int .i64 k5] : Array Value)[j]? = some v → cs[29 + j]? = some v) := Lib.hid (by
    intro j v hj
    match j, hj with
    | 0, hj => rw [← hj]; exact h29
    | 1, hj => rw [← hj]; exact h30
    | 2, hj => rw [← hj]; exact h31
    | 3, hj => rw [← hj]; exact h32
    | 4, hj => rw [← hj]; exact h33
    | j + 5, hj => cases hj)
  have HI := Lib.hid h
  have HC : Hid (cs[0]? = some (.slice A n c) ∧ cs[1]? = some (.int .i64 (a : Int)) ∧ cs[31]? = some (.int .i64 k3)) := Lib.hid ⟨h0, h1, h31⟩
  clear h h0 h1 hrs h29 h30 h31 h32 h33
  go_enter Try.func29, Try.ntmps29
  go_upto_region 1 with fail
  go_cut [3, 4, 5] (fun v3 v4 v5 wx => ∃ p3 p4 mk ma zk za er, v3 = .pointer (some ⟨p3, 0, none⟩) ∧ v4 = .pointer (some ⟨p4, 0, none⟩) ∧ v5 = .int .i64 er ∧ w.heap.size ≤ p3 ∧ w.heap.size ≤ p4 ∧ p3 ≠ p4 ∧ Hid (Blk wx p3 80 #[.int .i64 mk, .int .i64 k1, .int .i64 ma]) ∧ Hid (Blk wx p4 26 #[.int .i64 zk, .int .i64 za]) ∧ Hid (FoundIs fk fa k4 k5 mk ma zk za er) ∧ Hid (Ext w wx))
  case first =>
    refine wp_region_held_drew (S := fun w' => Blk w' g 57 cs) (by kernel_rfl) (HB.out.ext (Ext.drew w)) (fun hHeld => ?_)
    refine wpAnyH_take (i := 0) (v := (.pointer (some ⟨g, 0, none⟩))) rfl (by kernel_rfl) (by kernel_rfl) (by kernel_rfl) (fun _ _ _ h => h) (Or.inl ⟨by rfl, by (intro w hSw; go_simp)⟩) hHeld ?_
    try simp only [List.getElem_toArray, List.getElem_cons_zero, List.getElem_cons_succ, Act.put, List.setIfInBounds_toArray, List.set_cons_zero, List.set_cons_succ]
    refine wpAnyH_take (i := 1) (v := (.pointer (some ⟨g, 0, none⟩))) rfl (by kernel_rfl) (by kernel_rfl) (by kernel_rfl) (fun _ _ _ h => h) (Or.inl ⟨by rfl, by (intro w hSw; go_simp)⟩) hHeld ?_
    try simp only [List.getElem_toArray, List.getElem_cons_zero, List.getElem_cons_succ, Act.put, List.setIfInBounds_toArray, List.set_cons_zero, List.set_cons_succ]
    refine wpAnyH_take (i := 2) (v := (.pointer (some ⟨g, 34, none⟩))) rfl (by kernel_rfl) (by kernel_rfl) (by kernel_rfl) (fun _ _ _ h => h) (Or.inl ⟨by rfl, by (intro w hSw; go_simp)⟩) hHeld ?_
    try simp only [List.getElem_toArray, List.getElem_cons_zero, List.getElem_cons_succ, Act.put, List.setIfInBounds_toArray, List.set_cons_zero, List.set_cons_succ]
    refine wpAnyH_take (i := 3) (v := (.pointer (some ⟨g, 63, none⟩))) rfl (by kernel_rfl) (by kernel_rfl) (by kernel_rfl) (fun _ _ _ h => h) (Or.inl ⟨by rfl, by (intro w hSw; go_simp)⟩) hHeld ?_
    try simp only [List.getElem_toArray, List.getElem_cons_zero, List.getElem_cons_succ, Act.put, List.setIfInBounds_toArray, List.set_cons_zero, List.set_cons_succ]
    refine wpAnyH_take (i := 4) (v := (.agg #[.int .i64 fk, .int .i64 fa])) rfl (by kernel_rfl) (by kernel_rfl) (by kernel_rfl) (fun _ _ _ h => h) (Or.inl ⟨by rfl, by (intro w hSw; exact run_load_at rfl 26 (.tmp 16) rfl g 63 rfl 57 cs #[.int .i64 fk, .int .i64 fa] (0, 0) _ hSw HV63.out Try.underlying26 rfl find_info)⟩) hHeld ?_
    try simp only [List.getElem_toArray, List.getElem_cons_zero, List.getElem_cons_succ, Act.put, List.setIfInBounds_toArray, List.set_cons_zero, List.set_cons_succ]
    refine wpAnyH_take (i := 5) (v := (.pointer (some ⟨g, 0, none⟩))) rfl (by kernel_rfl) (by kernel_rfl) (by kernel_rfl) (fun _ _ _ h => h) (Or.inl ⟨by rfl, by (intro w hSw; go_simp)⟩) hHeld ?_
    try simp only [List.getElem_toArray, List.getElem_cons_zero, List.getElem_cons_succ, Act.put, List.setIfInBounds_toArray, List.set_cons_zero, List.set_cons_succ]
    refine wpAnyH_take (i := 6) (v := (.pointer (some ⟨g, 0, none⟩))) rfl (by kernel_rfl) (by kernel_rfl) (by kernel_rfl) (fun _ _ _ h => h) (Or.inl ⟨by rfl, by (intro w hSw; go_simp)⟩) hHeld ?_
    try simp only [List.getElem_toArray, List.getElem_cons_zero, List.getElem_cons_succ, Act.put, List.setIfInBounds_toArray, List.set_cons_zero, List.set_cons_succ]
    refine wpAnyH_take (i := 7) (v := (.pointer (some ⟨g, 29, none⟩))) rfl (by kernel_rfl) (by kernel_rfl) (by kernel_rfl) (fun _ _ _ h => h) (Or.inl ⟨by rfl, by (intro w hSw; go_simp)⟩) hHeld ?_
    try simp only [List.getElem_toArray, List.getElem_cons_zero, List.getElem_cons_succ, Act.put, List.setIfInBounds_toArray, List.set_cons_zero, List.set_cons_succ]
    refine wpAnyH_take (i := 8) (v := (.agg #[.int .i64 k1, .int .i64 k2, .int .i64 k3, .int .i64 k4, .int .i64 k5])) rfl (by kernel_rfl) (by kernel_rfl) (by kernel_rfl) (fun _ _ _ h => h) (Or.inl ⟨by rfl, by (intro w hSw; exact run_load_at rfl 28 (.tmp 20) rfl g 29 rfl 57 cs #[.int .i64 k1, .int .i64 k2, .int .i64 k3, .int .i64 k4, .int .i64 k5] (0, 0) _ hSw HV29.out Try.underlying28 rfl (by kernel_rfl))⟩) hHeld ?_
    try simp only [List.getElem_toArray, List.getElem_cons_zero, List.getElem_cons_succ, Act.put, List.setIfInBounds_toArray, List.set_cons_zero, List.set_cons_succ]
    have hx : Ext w w.drew := Ext.drew w
    have hb := HB.out.ext hx
    have hlo := hx.hsize
    generalize w.drew = W0 at *
    refine wpAnyH_ready (rs := [9, 14, 15]) (by kernel_rfl) (by simp) ?_
    refine AllReadyH.cons rfl (fun K hK => ?_) (AllReadyH.cons rfl (fun K hK => ?_) (AllReadyH.cons rfl (fun K hK => ?_) (AllReadyH.nil)))
    · refine step_callf rfl 36 #[.agg #[.int .i64 fk, .int .i64 fa], .agg #[.int .i64 k1, .int .i64 k2, .int .i64 k3, .int .i64 k4, .int .i64 k5]] rfl (by kernel_rfl) (fun v w' => ∃ mk ma zk za er : Int, v = .tuple #[.agg #[.int .i64 mk, .int .i64 k1, .int .i64 ma], .agg #[.int .i64 zk, .int .i64 za], .int .i64 er] ∧ FoundIs fk fa k4 k5 mk ma zk za er ∧ Ext W0 w') ((found_all' W0).mono fun e w' ⟨⟨mk, ma, zk, za, er, h1, h2⟩, h3⟩ => ⟨_, h1, mk, ma, zk, za, er, rfl, h2, h3⟩) ?_
      rintro v W1 ⟨mk, ma, zk, za, er, rfl, hF, hxc⟩
      replace hx := hx.trans hxc
      replace hb := hb.ext hxc
      clear hxc
      refine hK.out _ _ hb (fun hHeld1 => ?_)
      clear hK K hHeld
      try simp only [List.getElem_toArray, List.getElem_cons_zero, List.getElem_cons_succ, Act.put, List.setIfInBounds_toArray, List.set_cons_zero, List.set_cons_succ]
      refine wpAnyH_take (i := 10) (v := (.tuple #[.agg #[.int .i64 mk, .int .i64 k1, .int .i64 ma], .agg #[.int .i64 zk, .int .i64 za], .int .i64 er])) rfl (by kernel_rfl) (by kernel_rfl) (by kernel_rfl) (fun _ _ _ h => h) (Or.inl ⟨by rfl, by (intro w hSw; go_simp)⟩) hHeld1 ?_
      try simp only [List.getElem_toArray, List.getElem_cons_zero, List.getElem_cons_succ, Act.put, List.setIfInBounds_toArray, List.set_cons_zero, List.set_cons_succ]
      refine wpAnyH_take (i := 11) (v := (.agg #[.int .i64 mk, .int .i64 k1, .int .i64 ma])) rfl (by kernel_rfl) (by kernel_rfl) (by kernel_rfl) (fun _ _ _ h => h) (Or.inl ⟨by rfl, by (intro w hSw; go_simp)⟩) hHeld1 ?_
      try simp only [List.getElem_toArray, List.getElem_cons_zero, List.getElem_cons_succ, Act.put, List.setIfInBounds_toArray, List.set_cons_zero, List.set_cons_succ]
      refine wpAnyH_take (i := 12) (v := (.agg #[.int .i64 zk, .int .i64 za])) rfl (by kernel_rfl) (by kernel_rfl) (by kernel_rfl) (fun _ _ _ h => h) (Or.inl ⟨by rfl, by (intro w hSw; go_simp)⟩) hHeld1 ?_
      try simp only [List.getElem_toArray, List.getElem_cons_zero, List.getElem_cons_succ, Act.put, List.setIfInBounds_toArray, List.set_cons_zero, List.set_cons_succ]
      refine wpAnyH_take (i := 13) (v := (.int .i64 er)) rfl (by kernel_rfl) (by kernel_rfl) (by kernel_rfl) (fun _ _ _ h => h) (Or.inl ⟨by rfl, by (intro w hSw; go_simp)⟩) hHeld1 ?_
      try simp only [List.getElem_toArray, List.getElem_cons_zero, List.getElem_cons_succ, Act.put, List.setIfInBounds_toArray, List.set_cons_zero, List.set_cons_succ]
      refine wpAnyH_ready (rs := [14, 15]) (by kernel_rfl) (by simp) ?_
      refine AllReadyH.cons rfl (fun K hK => ?_) (AllReadyH.cons rfl (fun K hK => ?_) (AllReadyH.nil))
      · go_simp
        replace hb := hb.ext (Ext.alloc W1 (.cells #[.int .i64 0, .int .i64 0, .int .i64 0] 80))
        have h3 := Blk.new W1 80 #[.int .i64 0, .int .i64 0, .int .i64 0]
        have hp3 : w.heap.size ≤ W1.heap.size := hx.hsize
        replace hx := hx.to_alloc (.cells #[.int .i64 0, .int .i64 0, .int .i64 0] 80)
        generalize W1.heap.size = p3 at *
        generalize W1.alloc (.cells #[.int .i64 0, .int .i64 0, .int .i64 0] 80) = W2 at *
        refine hK.out _ _ hb (fun hHeld2 => ?_)
        clear hK K hHeld1
        try simp only [List.getElem_toArray, List.getElem_cons_zero, List.getElem_cons_succ, Act.put, List.setIfInBounds_toArray, List.set_cons_zero, List.set_cons_succ]
        refine wpAnyH_ready (rs := [15]) (by kernel_rfl) (by simp) ?_
        refine AllReadyH.cons rfl (fun K hK => ?_) (AllReadyH.nil)
        · go_simp
          replace hb := hb.ext (Ext.alloc W2 (.cells #[.int .i64 0, .int .i64 0] 26))
          have hne : p3 ≠ W2.heap.size := by have := h3.lt; omega
          replace h3 := h3.ext (Ext.alloc W2 (.cells #[.int .i64 0, .int .i64 0] 26))
          have h4 := Blk.new W2 26 #[.int .i64 0, .int .i64 0]
          have hp4 : w.heap.size ≤ W2.heap.size := hx.hsize
          replace hx := hx.to_alloc (.cells #[.int .i64 0, .int .i64 0] 26)
          generalize W2.heap.size = p4 at *
          generalize W2.alloc (.cells #[.int .i64 0, .int .i64 0] 26) = W3 at *
          refine hK.out _ _ hb (fun hHeld3 => ?_)
          clear hK K hHeld2
          try simp only [List.getElem_toArray, List.getElem_cons_zero, List.getElem_cons_succ, Act.put, List.setIfInBounds_toArray, List.set_cons_zero, List.set_cons_succ]
          refine wpAnyH_ready (rs := [16]) (by kernel_rfl) (by simp) ?_
          refine AllReadyH.cons rfl (fun K hK => ?_) (AllReadyH.nil)
          · refine step_store_at rfl 80 (.tmp 3) (.tmp 23) rfl p3 0 #[.int .i64 mk, .int .i64 k1, .int .i64 ma] rfl rfl 80 #[.int .i64 0, .int .i64 0, .int .i64 0] h3 move_info (Nat.le_refl _) (by simp [Value.oneCell']) ?_
            have hxs : Ext w (W3.setRow p3 #[.int .i64 mk, .int .i64 k1, .int .i64 ma]) := Ext.setRow hx hp3 _
            have hbs : Blk (W3.setRow p3 #[.int .i64 mk, .int .i64 k1, .int .i64 ma]) g 57 cs := Blk.setRow_other hb _ (by have := HB.out.lt; omega)
            have hs3 : Blk (W3.setRow p3 #[.int .i64 mk, .int .i64 k1, .int .i64 ma]) p3 80 #[.int .i64 mk, .int .i64 k1, .int .i64 ma] := Blk.setRow h3 _
            have hs4 : Blk (W3.setRow p3 #[.int .i64 mk, .int .i64 k1, .int .i64 ma]) p4 26 #[.int .i64 0, .int .i64 0] := Blk.setRow_other h4 _ (by omega)
            change K _ (W3.setRow p3 #[.int .i64 mk, .int .i64 k1, .int .i64 ma])
            clear hx hb h3 h4
            generalize W3.setRow p3 #[.int .i64 mk, .int .i64 k1, .int .i64 ma] = W4 at *
            have hx := hxs
            have hb := hbs
            have h3 := hs3
            have h4 := hs4
            clear hxs hbs hs3 hs4
            refine hK.out _ _ hb (fun hHeld4 => ?_)
            clear hK K hHeld3
            try simp only [List.getElem_toArray, List.getElem_cons_zero, List.getElem_cons_succ, Act.put, List.setIfInBounds_toArray, List.set_cons_zero, List.set_cons_succ]
            refine wpAnyH_ready (rs := [17]) (by kernel_rfl) (by simp) ?_
            refine AllReadyH.cons rfl (fun K hK => ?_) (AllReadyH.nil)
            · refine step_store_at rfl 26 (.tmp 4) (.tmp 24) rfl p4 0 #[.int .i64 zk, .int .i64 za] rfl rfl 26 #[.int .i64 0, .int .i64 0] h4 find_info (Nat.le_refl _) (by simp [Value.oneCell']) ?_
              have hxs : Ext w (W4.setRow p4 #[.int .i64 zk, .int .i64 za]) := Ext.setRow hx hp4 _
              have hbs : Blk (W4.setRow p4 #[.int .i64 zk, .int .i64 za]) g 57 cs := Blk.setRow_other hb _ (by have := HB.out.lt; omega)
              have hs4 : Blk (W4.setRow p4 #[.int .i64 zk, .int .i64 za]) p4 26 #[.int .i64 zk, .int .i64 za] := Blk.setRow h4 _
              have hs3 : Blk (W4.setRow p4 #[.int .i64 zk, .int .i64 za]) p3 80 #[.int .i64 mk, .int .i64 k1, .int .i64 ma] := Blk.setRow_other h3 _ (by omega)
              change K _ (W4.setRow p4 #[.int .i64 zk, .int .i64 za])
              clear hx hb h4 h3
              generalize W4.setRow p4 #[.int .i64 zk, .int .i64 za] = W5 at *
              have hx := hxs
              have hb := hbs
              have h4 := hs4
              have h3 := hs3
              clear hxs hbs hs4 hs3
              refine hK.out _ _ hb (fun hHeld5 => ?_)
              clear hK K hHeld4
              try simp only [List.getElem_toArray, List.getElem_cons_zero, List.getElem_cons_succ, Act.put, List.setIfInBounds_toArray, List.set_cons_zero, List.set_cons_succ]
              refine wpAnyH_take (i := 18) (v := (.int .i64 er)) rfl (by kernel_rfl) (by kernel_rfl) (by kernel_rfl) (fun _ _ _ h => h) (Or.inl ⟨by rfl, by (intro w hSw; go_simp)⟩) hHeld5 ?_
              try simp only [List.getElem_toArray, List.getElem_cons_zero, List.getElem_cons_succ, Act.put, List.setIfInBounds_toArray, List.set_cons_zero, List.set_cons_succ]
              refine wpAnyH_done (by kernel_rfl) ?_ _
              try go_wp2_with fail
              go_meet
              exact ⟨p3, p4, mk, ma, zk, za, er, rfl, rfl, rfl, hp3, hp4, hne, Lib.hid h3, Lib.hid h4, Lib.hid hF, Lib.hid hx⟩
      · go_simp
        replace hb := hb.ext (Ext.alloc W1 (.cells #[.int .i64 0, .int .i64 0] 26))
        have h4 := Blk.new W1 26 #[.int .i64 0, .int .i64 0]
        have hp4 : w.heap.size ≤ W1.heap.size := hx.hsize
        replace hx := hx.to_alloc (.cells #[.int .i64 0, .int .i64 0] 26)
        generalize W1.heap.size = p4 at *
        generalize W1.alloc (.cells #[.int .i64 0, .int .i64 0] 26) = W2 at *
        refine hK.out _ _ hb (fun hHeld2 => ?_)
        clear hK K hHeld1
        try simp only [List.getElem_toArray, List.getElem_cons_zero, List.getElem_cons_succ, Act.put, List.setIfInBounds_toArray, List.set_cons_zero, List.set_cons_succ]
        refine wpAnyH_ready (rs := [14]) (by kernel_rfl) (by simp) ?_
        refine AllReadyH.cons rfl (fun K hK => ?_) (AllReadyH.nil)
        · go_simp
          replace hb := hb.ext (Ext.alloc W2 (.cells #[.int .i64 0, .int .i64 0, .int .i64 0] 80))
          have hne : W2.heap.size ≠ p4 := by have := h4.lt; omega
          replace h4 := h4.ext (Ext.alloc W2 (.cells #[.int .i64 0, .int .i64 0, .int .i64 0] 80))
          have h3 := Blk.new W2 80 #[.int .i64 0, .int .i64 0, .int .i64 0]
          have hp3 : w.heap.size ≤ W2.heap.size := hx.hsize
          replace hx := hx.to_alloc (.cells #[.int .i64 0, .int .i64 0, .int .i64 0] 80)
          generalize W2.heap.size = p3 at *
          generalize W2.alloc (.cells #[.int .i64 0, .int .i64 0, .int .i64 0] 80) = W3 at *
          refine hK.out _ _ hb (fun hHeld3 => ?_)
          clear hK K hHeld2
          try simp only [List.getElem_toArray, List.getElem_cons_zero, List.getElem_cons_succ, Act.put, List.setIfInBounds_toArray, List.set_cons_zero, List.set_cons_succ]
          refine wpAnyH_ready (rs := [16]) (by kernel_rfl) (by simp) ?_
          refine AllReadyH.cons rfl (fun K hK => ?_) (AllReadyH.nil)
          · refine step_store_at rfl 80 (.tmp 3) (.tmp 23) rfl p3 0 #[.int .i64 mk, .int .i64 k1, .int .i64 ma] rfl rfl 80 #[.int .i64 0, .int .i64 0, .int .i64 0] h3 move_info (Nat.le_refl _) (by simp [Value.oneCell']) ?_
            have hxs : Ext w (W3.setRow p3 #[.int .i64 mk, .int .i64 k1, .int .i64 ma]) := Ext.setRow hx hp3 _
            have hbs : Blk (W3.setRow p3 #[.int .i64 mk, .int .i64 k1, .int .i64 ma]) g 57 cs := Blk.setRow_other hb _ (by have := HB.out.lt; omega)
            have hs3 : Blk (W3.setRow p3 #[.int .i64 mk, .int .i64 k1, .int .i64 ma]) p3 80 #[.int .i64 mk, .int .i64 k1, .int .i64 ma] := Blk.setRow h3 _
            have hs4 : Blk (W3.setRow p3 #[.int .i64 mk, .int .i64 k1, .int .i64 ma]) p4 26 #[.int .i64 0, .int .i64 0] := Blk.setRow_other h4 _ (by omega)
            change K _ (W3.setRow p3 #[.int .i64 mk, .int .i64 k1, .int .i64 ma])
            clear hx hb h3 h4
            generalize W3.setRow p3 #[.int .i64 mk, .int .i64 k1, .int .i64 ma] = W4 at *
            have hx := hxs
            have hb := hbs
            have h3 := hs3
            have h4 := hs4
            clear hxs hbs hs3 hs4
            refine hK.out _ _ hb (fun hHeld4 => ?_)
            clear hK K hHeld3
            try simp only [List.getElem_toArray, List.getElem_cons_zero, List.getElem_cons_succ, Act.put, List.setIfInBounds_toArray, List.set_cons_zero, List.set_cons_succ]
            refine wpAnyH_ready (rs := [17]) (by kernel_rfl) (by simp) ?_
            refine AllReadyH.cons rfl (fun K hK => ?_) (AllReadyH.nil)
            · refine step_store_at rfl 26 (.tmp 4) (.tmp 24) rfl p4 0 #[.int .i64 zk, .int .i64 za] rfl rfl 26 #[.int .i64 0, .int .i64 0] h4 find_info (Nat.le_refl _) (by simp [Value.oneCell']) ?_
              have hxs : Ext w (W4.setRow p4 #[.int .i64 zk, .int .i64 za]) := Ext.setRow hx hp4 _
              have hbs : Blk (W4.setRow p4 #[.int .i64 zk, .int .i64 za]) g 57 cs := Blk.setRow_other hb _ (by have := HB.out.lt; omega)
              have hs4 : Blk (W4.setRow p4 #[.int .i64 zk, .int .i64 za]) p4 26 #[.int .i64 zk, .int .i64 za] := Blk.setRow h4 _
              have hs3 : Blk (W4.setRow p4 #[.int .i64 zk, .int .i64 za]) p3 80 #[.int .i64 mk, .int .i64 k1, .int .i64 ma] := Blk.setRow_other h3 _ (by omega)
              change K _ (W4.setRow p4 #[.int .i64 zk, .int .i64 za])
              clear hx hb h4 h3
              generalize W4.setRow p4 #[.int .i64 zk, .int .i64 za] = W5 at *
              have hx := hxs
              have hb := hbs
              have h4 := hs4
              have h3 := hs3
              clear hxs hbs hs4 hs3
              refine hK.out _ _ hb (fun hHeld5 => ?_)
              clear hK K hHeld4
              try simp only [List.getElem_toArray, List.getElem_cons_zero, List.getElem_cons_succ, Act.put, List.setIfInBounds_toArray, List.set_cons_zero, List.set_cons_succ]
              refine wpAnyH_take (i := 18) (v := (.int .i64 er)) rfl (by kernel_rfl) (by kernel_rfl) (by kernel_rfl) (fun _ _ _ h => h) (Or.inl ⟨by rfl, by (intro w hSw; go_simp)⟩) hHeld5 ?_
              try simp only [List.getElem_toArray, List.getElem_cons_zero, List.getElem_cons_succ, Act.put, List.setIfInBounds_toArray, List.set_cons_zero, List.set_cons_succ]
              refine wpAnyH_done (by kernel_rfl) ?_ _
              try go_wp2_with fail
              go_meet
              exact ⟨p3, p4, mk, ma, zk, za, er, rfl, rfl, rfl, hp3, hp4, hne, Lib.hid h3, Lib.hid h4, Lib.hid hF, Lib.hid hx⟩
    · go_simp
      replace hb := hb.ext (Ext.alloc W0 (.cells #[.int .i64 0, .int .i64 0, .int .i64 0] 80))
      have h3 := Blk.new W0 80 #[.int .i64 0, .int .i64 0, .int .i64 0]
      have hp3 : w.heap.size ≤ W0.heap.size := hx.hsize
      replace hx := hx.to_alloc (.cells #[.int .i64 0, .int .i64 0, .int .i64 0] 80)
      generalize W0.heap.size = p3 at *
      generalize W0.alloc (.cells #[.int .i64 0, .int .i64 0, .int .i64 0] 80) = W1 at *
      refine hK.out _ _ hb (fun hHeld1 => ?_)
      clear hK K hHeld
      try simp only [List.getElem_toArray, List.getElem_cons_zero, List.getElem_cons_succ, Act.put, List.setIfInBounds_toArray, List.set_cons_zero, List.set_cons_succ]
      refine wpAnyH_ready (rs := [9, 15]) (by kernel_rfl) (by simp) ?_
      refine AllReadyH.cons rfl (fun K hK => ?_) (AllReadyH.cons rfl (fun K hK => ?_) (AllReadyH.nil))
      · refine step_callf rfl 36 #[.agg #[.int .i64 fk, .int .i64 fa], .agg #[.int .i64 k1, .int .i64 k2, .int .i64 k3, .int .i64 k4, .int .i64 k5]] rfl (by kernel_rfl) (fun v w' => ∃ mk ma zk za er : Int, v = .tuple #[.agg #[.int .i64 mk, .int .i64 k1, .int .i64 ma], .agg #[.int .i64 zk, .int .i64 za], .int .i64 er] ∧ FoundIs fk fa k4 k5 mk ma zk za er ∧ Ext W1 w') ((found_all' W1).mono fun e w' ⟨⟨mk, ma, zk, za, er, h1, h2⟩, h3⟩ => ⟨_, h1, mk, ma, zk, za, er, rfl, h2, h3⟩) ?_
        rintro v W2 ⟨mk, ma, zk, za, er, rfl, hF, hxc⟩
        replace hx := hx.trans hxc
        replace hb := hb.ext hxc
        replace h3 := h3.ext hxc
        clear hxc
        refine hK.out _ _ hb (fun hHeld2 => ?_)
        clear hK K hHeld1
        try simp only [List.getElem_toArray, List.getElem_cons_zero, List.getElem_cons_succ, Act.put, List.setIfInBounds_toArray, List.set_cons_zero, List.set_cons_succ]
        refine wpAnyH_take (i := 10) (v := (.tuple #[.agg #[.int .i64 mk, .int .i64 k1, .int .i64 ma], .agg #[.int .i64 zk, .int .i64 za], .int .i64 er])) rfl (by kernel_rfl) (by kernel_rfl) (by kernel_rfl) (fun _ _ _ h => h) (Or.inl ⟨by rfl, by (intro w hSw; go_simp)⟩) hHeld2 ?_
        try simp only [List.getElem_toArray, List.getElem_cons_zero, List.getElem_cons_succ, Act.put, List.setIfInBounds_toArray, List.set_cons_zero, List.set_cons_succ]
        refine wpAnyH_take (i := 11) (v := (.agg #[.int .i64 mk, .int .i64 k1, .int .i64 ma])) rfl (by kernel_rfl) (by kernel_rfl) (by kernel_rfl) (fun _ _ _ h => h) (Or.inl ⟨by rfl, by (intro w hSw; go_simp)⟩) hHeld2 ?_
        try simp only [List.getElem_toArray, List.getElem_cons_zero, List.getElem_cons_succ, Act.put, List.setIfInBounds_toArray, List.set_cons_zero, List.set_cons_succ]
        refine wpAnyH_take (i := 12) (v := (.agg #[.int .i64 zk, .int .i64 za])) rfl (by kernel_rfl) (by kernel_rfl) (by kernel_rfl) (fun _ _ _ h => h) (Or.inl ⟨by rfl, by (intro w hSw; go_simp)⟩) hHeld2 ?_
        try simp only [List.getElem_toArray, List.getElem_cons_zero, List.getElem_cons_succ, Act.put, List.setIfInBounds_toArray, List.set_cons_zero, List.set_cons_succ]
        refine wpAnyH_take (i := 13) (v := (.int .i64 er)) rfl (by kernel_rfl) (by kernel_rfl) (by kernel_rfl) (fun _ _ _ h => h) (Or.inl ⟨by rfl, by (intro w hSw; go_simp)⟩) hHeld2 ?_
        try simp only [List.getElem_toArray, List.getElem_cons_zero, List.getElem_cons_succ, Act.put, List.setIfInBounds_toArray, List.set_cons_zero, List.set_cons_succ]
        refine wpAnyH_ready (rs := [15]) (by kernel_rfl) (by simp) ?_
        refine AllReadyH.cons rfl (fun K hK => ?_) (AllReadyH.nil)
        · go_simp
          replace hb := hb.ext (Ext.alloc W2 (.cells #[.int .i64 0, .int .i64 0] 26))
          have hne : p3 ≠ W2.heap.size := by have := h3.lt; omega
          replace h3 := h3.ext (Ext.alloc W2 (.cells #[.int .i64 0, .int .i64 0] 26))
          have h4 := Blk.new W2 26 #[.int .i64 0, .int .i64 0]
          have hp4 : w.heap.size ≤ W2.heap.size := hx.hsize
          replace hx := hx.to_alloc (.cells #[.int .i64 0, .int .i64 0] 26)
          generalize W2.heap.size = p4 at *
          generalize W2.alloc (.cells #[.int .i64 0, .int .i64 0] 26) = W3 at *
          refine hK.out _ _ hb (fun hHeld3 => ?_)
          clear hK K hHeld2
          try simp only [List.getElem_toArray, List.getElem_cons_zero, List.getElem_cons_succ, Act.put, List.setIfInBounds_toArray, List.set_cons_zero, List.set_cons_succ]
          refine wpAnyH_ready (rs := [16]) (by kernel_rfl) (by simp) ?_
          refine AllReadyH.cons rfl (fun K hK => ?_) (AllReadyH.nil)
          · refine step_store_at rfl 80 (.tmp 3) (.tmp 23) rfl p3 0 #[.int .i64 mk, .int .i64 k1, .int .i64 ma] rfl rfl 80 #[.int .i64 0, .int .i64 0, .int .i64 0] h3 move_info (Nat.le_refl _) (by simp [Value.oneCell']) ?_
            have hxs : Ext w (W3.setRow p3 #[.int .i64 mk, .int .i64 k1, .int .i64 ma]) := Ext.setRow hx hp3 _
            have hbs : Blk (W3.setRow p3 #[.int .i64 mk, .int .i64 k1, .int .i64 ma]) g 57 cs := Blk.setRow_other hb _ (by have := HB.out.lt; omega)
            have hs3 : Blk (W3.setRow p3 #[.int .i64 mk, .int .i64 k1, .int .i64 ma]) p3 80 #[.int .i64 mk, .int .i64 k1, .int .i64 ma] := Blk.setRow h3 _
            have hs4 : Blk (W3.setRow p3 #[.int .i64 mk, .int .i64 k1, .int .i64 ma]) p4 26 #[.int .i64 0, .int .i64 0] := Blk.setRow_other h4 _ (by omega)
            change K _ (W3.setRow p3 #[.int .i64 mk, .int .i64 k1, .int .i64 ma])
            clear hx hb h3 h4
            generalize W3.setRow p3 #[.int .i64 mk, .int .i64 k1, .int .i64 ma] = W4 at *
            have hx := hxs
            have hb := hbs
            have h3 := hs3
            have h4 := hs4
            clear hxs hbs hs3 hs4
            refine hK.out _ _ hb (fun hHeld4 => ?_)
            clear hK K hHeld3
            try simp only [List.getElem_toArray, List.getElem_cons_zero, List.getElem_cons_succ, Act.put, List.setIfInBounds_toArray, List.set_cons_zero, List.set_cons_succ]
            refine wpAnyH_ready (rs := [17]) (by kernel_rfl) (by simp) ?_
            refine AllReadyH.cons rfl (fun K hK => ?_) (AllReadyH.nil)
            · refine step_store_at rfl 26 (.tmp 4) (.tmp 24) rfl p4 0 #[.int .i64 zk, .int .i64 za] rfl rfl 26 #[.int .i64 0, .int .i64 0] h4 find_info (Nat.le_refl _) (by simp [Value.oneCell']) ?_
              have hxs : Ext w (W4.setRow p4 #[.int .i64 zk, .int .i64 za]) := Ext.setRow hx hp4 _
              have hbs : Blk (W4.setRow p4 #[.int .i64 zk, .int .i64 za]) g 57 cs := Blk.setRow_other hb _ (by have := HB.out.lt; omega)
              have hs4 : Blk (W4.setRow p4 #[.int .i64 zk, .int .i64 za]) p4 26 #[.int .i64 zk, .int .i64 za] := Blk.setRow h4 _
              have hs3 : Blk (W4.setRow p4 #[.int .i64 zk, .int .i64 za]) p3 80 #[.int .i64 mk, .int .i64 k1, .int .i64 ma] := Blk.setRow_other h3 _ (by omega)
              change K _ (W4.setRow p4 #[.int .i64 zk, .int .i64 za])
              clear hx hb h4 h3
              generalize W4.setRow p4 #[.int .i64 zk, .int .i64 za] = W5 at *
              have hx := hxs
              have hb := hbs
              have h4 := hs4
              have h3 := hs3
              clear hxs hbs hs4 hs3
              refine hK.out _ _ hb (fun hHeld5 => ?_)
              clear hK K hHeld4
              try simp only [List.getElem_toArray, List.getElem_cons_zero, List.getElem_cons_succ, Act.put, List.setIfInBounds_toArray, List.set_cons_zero, List.set_cons_succ]
              refine wpAnyH_take (i := 18) (v := (.int .i64 er)) rfl (by kernel_rfl) (by kernel_rfl) (by kernel_rfl) (fun _ _ _ h => h) (Or.inl ⟨by rfl, by (intro w hSw; go_simp)⟩) hHeld5 ?_
              try simp only [List.getElem_toArray, List.getElem_cons_zero, List.getElem_cons_succ, Act.put, List.setIfInBounds_toArray, List.set_cons_zero, List.set_cons_succ]
              refine wpAnyH_done (by kernel_rfl) ?_ _
              try go_wp2_with fail
              go_meet
              exact ⟨p3, p4, mk, ma, zk, za, er, rfl, rfl, rfl, hp3, hp4, hne, Lib.hid h3, Lib.hid h4, Lib.hid hF, Lib.hid hx⟩
      · go_simp
        replace hb := hb.ext (Ext.alloc W1 (.cells #[.int .i64 0, .int .i64 0] 26))
        have hne : p3 ≠ W1.heap.size := by have := h3.lt; omega
        replace h3 := h3.ext (Ext.alloc W1 (.cells #[.int .i64 0, .int .i64 0] 26))
        have h4 := Blk.new W1 26 #[.int .i64 0, .int .i64 0]
        have hp4 : w.heap.size ≤ W1.heap.size := hx.hsize
        replace hx := hx.to_alloc (.cells #[.int .i64 0, .int .i64 0] 26)
        generalize W1.heap.size = p4 at *
        generalize W1.alloc (.cells #[.int .i64 0, .int .i64 0] 26) = W2 at *
        refine hK.out _ _ hb (fun hHeld2 => ?_)
        clear hK K hHeld1
        try simp only [List.getElem_toArray, List.getElem_cons_zero, List.getElem_cons_succ, Act.put, List.setIfInBounds_toArray, List.set_cons_zero, List.set_cons_succ]
        refine wpAnyH_ready (rs := [9]) (by kernel_rfl) (by simp) ?_
        refine AllReadyH.cons rfl (fun K hK => ?_) (AllReadyH.nil)
        · refine step_callf rfl 36 #[.agg #[.int .i64 fk, .int .i64 fa], .agg #[.int .i64 k1, .int .i64 k2, .int .i64 k3, .int .i64 k4, .int .i64 k5]] rfl (by kernel_rfl) (fun v w' => ∃ mk ma zk za er : Int, v = .tuple #[.agg #[.int .i64 mk, .int .i64 k1, .int .i64 ma], .agg #[.int .i64 zk, .int .i64 za], .int .i64 er] ∧ FoundIs fk fa k4 k5 mk ma zk za er ∧ Ext W2 w') ((found_all' W2).mono fun e w' ⟨⟨mk, ma, zk, za, er, h1, h2⟩, h3⟩ => ⟨_, h1, mk, ma, zk, za, er, rfl, h2, h3⟩) ?_
          rintro v W3 ⟨mk, ma, zk, za, er, rfl, hF, hxc⟩
          replace hx := hx.trans hxc
          replace hb := hb.ext hxc
          replace h3 := h3.ext hxc
          replace h4 := h4.ext hxc
          clear hxc
          refine hK.out _ _ hb (fun hHeld3 => ?_)
          clear hK K hHeld2
          try simp only [List.getElem_toArray, List.getElem_cons_zero, List.getElem_cons_succ, Act.put, List.setIfInBounds_toArray, List.set_cons_zero, List.set_cons_succ]
          refine wpAnyH_take (i := 10) (v := (.tuple #[.agg #[.int .i64 mk, .int .i64 k1, .int .i64 ma], .agg #[.int .i64 zk, .int .i64 za], .int .i64 er])) rfl (by kernel_rfl) (by kernel_rfl) (by kernel_rfl) (fun _ _ _ h => h) (Or.inl ⟨by rfl, by (intro w hSw; go_simp)⟩) hHeld3 ?_
          try simp only [List.getElem_toArray, List.getElem_cons_zero, List.getElem_cons_succ, Act.put, List.setIfInBounds_toArray, List.set_cons_zero, List.set_cons_succ]
          refine wpAnyH_take (i := 11) (v := (.agg #[.int .i64 mk, .int .i64 k1, .int .i64 ma])) rfl (by kernel_rfl) (by kernel_rfl) (by kernel_rfl) (fun _ _ _ h => h) (Or.inl ⟨by rfl, by (intro w hSw; go_simp)⟩) hHeld3 ?_
          try simp only [List.getElem_toArray, List.getElem_cons_zero, List.getElem_cons_succ, Act.put, List.setIfInBounds_toArray, List.set_cons_zero, List.set_cons_succ]
          refine wpAnyH_take (i := 12) (v := (.agg #[.int .i64 zk, .int .i64 za])) rfl (by kernel_rfl) (by kernel_rfl) (by kernel_rfl) (fun _ _ _ h => h) (Or.inl ⟨by rfl, by (intro w hSw; go_simp)⟩) hHeld3 ?_
          try simp only [List.getElem_toArray, List.getElem_cons_zero, List.getElem_cons_succ, Act.put, List.setIfInBounds_toArray, List.set_cons_zero, List.set_cons_succ]
          refine wpAnyH_take (i := 13) (v := (.int .i64 er)) rfl (by kernel_rfl) (by kernel_rfl) (by kernel_rfl) (fun _ _ _ h => h) (Or.inl ⟨by rfl, by (intro w hSw; go_simp)⟩) hHeld3 ?_
          try simp only [List.getElem_toArray, List.getElem_cons_zero, List.getElem_cons_succ, Act.put, List.setIfInBounds_toArray, List.set_cons_zero, List.set_cons_succ]
          refine wpAnyH_ready (rs := [16]) (by kernel_rfl) (by simp) ?_
          refine AllReadyH.cons rfl (fun K hK => ?_) (AllReadyH.nil)
          · refine step_store_at rfl 80 (.tmp 3) (.tmp 23) rfl p3 0 #[.int .i64 mk, .int .i64 k1, .int .i64 ma] rfl rfl 80 #[.int .i64 0, .int .i64 0, .int .i64 0] h3 move_info (Nat.le_refl _) (by simp [Value.oneCell']) ?_
            have hxs : Ext w (W3.setRow p3 #[.int .i64 mk, .int .i64 k1, .int .i64 ma]) := Ext.setRow hx hp3 _
            have hbs : Blk (W3.setRow p3 #[.int .i64 mk, .int .i64 k1, .int .i64 ma]) g 57 cs := Blk.setRow_other hb _ (by have := HB.out.lt; omega)
            have hs3 : Blk (W3.setRow p3 #[.int .i64 mk, .int .i64 k1, .int .i64 ma]) p3 80 #[.int .i64 mk, .int .i64 k1, .int .i64 ma] := Blk.setRow h3 _
            have hs4 : Blk (W3.setRow p3 #[.int .i64 mk, .int .i64 k1, .int .i64 ma]) p4 26 #[.int .i64 0, .int .i64 0] := Blk.setRow_other h4 _ (by omega)
            change K _ (W3.setRow p3 #[.int .i64 mk, .int .i64 k1, .int .i64 ma])
            clear hx hb h3 h4
            generalize W3.setRow p3 #[.int .i64 mk, .int .i64 k1, .int .i64 ma] = W4 at *
            have hx := hxs
            have hb := hbs
            have h3 := hs3
            have h4 := hs4
            clear hxs hbs hs3 hs4
            refine hK.out _ _ hb (fun hHeld4 => ?_)
            clear hK K hHeld3
            try simp only [List.getElem_toArray, List.getElem_cons_zero, List.getElem_cons_succ, Act.put, List.setIfInBounds_toArray, List.set_cons_zero, List.set_cons_succ]
            refine wpAnyH_ready (rs := [17]) (by kernel_rfl) (by simp) ?_
            refine AllReadyH.cons rfl (fun K hK => ?_) (AllReadyH.nil)
            · refine step_store_at rfl 26 (.tmp 4) (.tmp 24) rfl p4 0 #[.int .i64 zk, .int .i64 za] rfl rfl 26 #[.int .i64 0, .int .i64 0] h4 find_info (Nat.le_refl _) (by simp [Value.oneCell']) ?_
              have hxs : Ext w (W4.setRow p4 #[.int .i64 zk, .int .i64 za]) := Ext.setRow hx hp4 _
              have hbs : Blk (W4.setRow p4 #[.int .i64 zk, .int .i64 za]) g 57 cs := Blk.setRow_other hb _ (by have := HB.out.lt; omega)
              have hs4 : Blk (W4.setRow p4 #[.int .i64 zk, .int .i64 za]) p4 26 #[.int .i64 zk, .int .i64 za] := Blk.setRow h4 _
              have hs3 : Blk (W4.setRow p4 #[.int .i64 zk, .int .i64 za]) p3 80 #[.int .i64 mk, .int .i64 k1, .int .i64 ma] := Blk.setRow_other h3 _ (by omega)
              change K _ (W4.setRow p4 #[.int .i64 zk, .int .i64 za])
              clear hx hb h4 h3
              generalize W4.setRow p4 #[.int .i64 zk, .int .i64 za] = W5 at *
              have hx := hxs
              have hb := hbs
              have h4 := hs4
              have h3 := hs3
              clear hxs hbs hs4 hs3
              refine hK.out _ _ hb (fun hHeld5 => ?_)
              clear hK K hHeld4
              try simp only [List.getElem_toArray, List.getElem_cons_zero, List.getElem_cons_succ, Act.put, List.setIfInBounds_toArray, List.set_cons_zero, List.set_cons_succ]
              refine wpAnyH_take (i := 18) (v := (.int .i64 er)) rfl (by kernel_rfl) (by kernel_rfl) (by kernel_rfl) (fun _ _ _ h => h) (Or.inl ⟨by rfl, by (intro w hSw; go_simp)⟩) hHeld5 ?_
              try simp only [List.getElem_toArray, List.getElem_cons_zero, List.getElem_cons_succ, Act.put, List.setIfInBounds_toArray, List.set_cons_zero, List.set_cons_succ]
              refine wpAnyH_done (by kernel_rfl) ?_ _
              try go_wp2_with fail
              go_meet
              exact ⟨p3, p4, mk, ma, zk, za, er, rfl, rfl, rfl, hp3, hp4, hne, Lib.hid h3, Lib.hid h4, Lib.hid hF, Lib.hid hx⟩
    · go_simp
      replace hb := hb.ext (Ext.alloc W0 (.cells #[.int .i64 0, .int .i64 0] 26))
      have h4 := Blk.new W0 26 #[.int .i64 0, .int .i64 0]
      have hp4 : w.heap.size ≤ W0.heap.size := hx.hsize
      replace hx := hx.to_alloc (.cells #[.int .i64 0, .int .i64 0] 26)
      generalize W0.heap.size = p4 at *
      generalize W0.alloc (.cells #[.int .i64 0, .int .i64 0] 26) = W1 at *
      refine hK.out _ _ hb (fun hHeld1 => ?_)
      clear hK K hHeld
      try simp only [List.getElem_toArray, List.getElem_cons_zero, List.getElem_cons_succ, Act.put, List.setIfInBounds_toArray, List.set_cons_zero, List.set_cons_succ]
      refine wpAnyH_ready (rs := [9, 14]) (by kernel_rfl) (by simp) ?_
      refine AllReadyH.cons rfl (fun K hK => ?_) (AllReadyH.cons rfl (fun K hK => ?_) (AllReadyH.nil))
      · refine step_callf rfl 36 #[.agg #[.int .i64 fk, .int .i64 fa], .agg #[.int .i64 k1, .int .i64 k2, .int .i64 k3, .int .i64 k4, .int .i64 k5]] rfl (by kernel_rfl) (fun v w' => ∃ mk ma zk za er : Int, v = .tuple #[.agg #[.int .i64 mk, .int .i64 k1, .int .i64 ma], .agg #[.int .i64 zk, .int .i64 za], .int .i64 er] ∧ FoundIs fk fa k4 k5 mk ma zk za er ∧ Ext W1 w') ((found_all' W1).mono fun e w' ⟨⟨mk, ma, zk, za, er, h1, h2⟩, h3⟩ => ⟨_, h1, mk, ma, zk, za, er, rfl, h2, h3⟩) ?_
        rintro v W2 ⟨mk, ma, zk, za, er, rfl, hF, hxc⟩
        replace hx := hx.trans hxc
        replace hb := hb.ext hxc
        replace h4 := h4.ext hxc
        clear hxc
        refine hK.out _ _ hb (fun hHeld2 => ?_)
        clear hK K hHeld1
        try simp only [List.getElem_toArray, List.getElem_cons_zero, List.getElem_cons_succ, Act.put, List.setIfInBounds_toArray, List.set_cons_zero, List.set_cons_succ]
        refine wpAnyH_take (i := 10) (v := (.tuple #[.agg #[.int .i64 mk, .int .i64 k1, .int .i64 ma], .agg #[.int .i64 zk, .int .i64 za], .int .i64 er])) rfl (by kernel_rfl) (by kernel_rfl) (by kernel_rfl) (fun _ _ _ h => h) (Or.inl ⟨by rfl, by (intro w hSw; go_simp)⟩) hHeld2 ?_
        try simp only [List.getElem_toArray, List.getElem_cons_zero, List.getElem_cons_succ, Act.put, List.setIfInBounds_toArray, List.set_cons_zero, List.set_cons_succ]
        refine wpAnyH_take (i := 11) (v := (.agg #[.int .i64 mk, .int .i64 k1, .int .i64 ma])) rfl (by kernel_rfl) (by kernel_rfl) (by kernel_rfl) (fun _ _ _ h => h) (Or.inl ⟨by rfl, by (intro w hSw; go_simp)⟩) hHeld2 ?_
        try simp only [List.getElem_toArray, List.getElem_cons_zero, List.getElem_cons_succ, Act.put, List.setIfInBounds_toArray, List.set_cons_zero, List.set_cons_succ]
        refine wpAnyH_take (i := 12) (v := (.agg #[.int .i64 zk, .int .i64 za])) rfl (by kernel_rfl) (by kernel_rfl) (by kernel_rfl) (fun _ _ _ h => h) (Or.inl ⟨by rfl, by (intro w hSw; go_simp)⟩) hHeld2 ?_
        try simp only [List.getElem_toArray, List.getElem_cons_zero, List.getElem_cons_succ, Act.put, List.setIfInBounds_toArray, List.set_cons_zero, List.set_cons_succ]
        refine wpAnyH_take (i := 13) (v := (.int .i64 er)) rfl (by kernel_rfl) (by kernel_rfl) (by kernel_rfl) (fun _ _ _ h => h) (Or.inl ⟨by rfl, by (intro w hSw; go_simp)⟩) hHeld2 ?_
        try simp only [List.getElem_toArray, List.getElem_cons_zero, List.getElem_cons_succ, Act.put, List.setIfInBounds_toArray, List.set_cons_zero, List.set_cons_succ]
        refine wpAnyH_ready (rs := [14]) (by kernel_rfl) (by simp) ?_
        refine AllReadyH.cons rfl (fun K hK => ?_) (AllReadyH.nil)
        · go_simp
          replace hb := hb.ext (Ext.alloc W2 (.cells #[.int .i64 0, .int .i64 0, .int .i64 0] 80))
          have hne : W2.heap.size ≠ p4 := by have := h4.lt; omega
          replace h4 := h4.ext (Ext.alloc W2 (.cells #[.int .i64 0, .int .i64 0, .int .i64 0] 80))
          have h3 := Blk.new W2 80 #[.int .i64 0, .int .i64 0, .int .i64 0]
          have hp3 : w.heap.size ≤ W2.heap.size := hx.hsize
          replace hx := hx.to_alloc (.cells #[.int .i64 0, .int .i64 0, .int .i64 0] 80)
          generalize W2.heap.size = p3 at *
          generalize W2.alloc (.cells #[.int .i64 0, .int .i64 0, .int .i64 0] 80) = W3 at *
          refine hK.out _ _ hb (fun hHeld3 => ?_)
          clear hK K hHeld2
          try simp only [List.getElem_toArray, List.getElem_cons_zero, List.getElem_cons_succ, Act.put, List.setIfInBounds_toArray, List.set_cons_zero, List.set_cons_succ]
          refine wpAnyH_ready (rs := [16]) (by kernel_rfl) (by simp) ?_
          refine AllReadyH.cons rfl (fun K hK => ?_) (AllReadyH.nil)
          · refine step_store_at rfl 80 (.tmp 3) (.tmp 23) rfl p3 0 #[.int .i64 mk, .int .i64 k1, .int .i64 ma] rfl rfl 80 #[.int .i64 0, .int .i64 0, .int .i64 0] h3 move_info (Nat.le_refl _) (by simp [Value.oneCell']) ?_
            have hxs : Ext w (W3.setRow p3 #[.int .i64 mk, .int .i64 k1, .int .i64 ma]) := Ext.setRow hx hp3 _
            have hbs : Blk (W3.setRow p3 #[.int .i64 mk, .int .i64 k1, .int .i64 ma]) g 57 cs := Blk.setRow_other hb _ (by have := HB.out.lt; omega)
            have hs3 : Blk (W3.setRow p3 #[.int .i64 mk, .int .i64 k1, .int .i64 ma]) p3 80 #[.int .i64 mk, .int .i64 k1, .int .i64 ma] := Blk.setRow h3 _
            have hs4 : Blk (W3.setRow p3 #[.int .i64 mk, .int .i64 k1, .int .i64 ma]) p4 26 #[.int .i64 0, .int .i64 0] := Blk.setRow_other h4 _ (by omega)
            change K _ (W3.setRow p3 #[.int .i64 mk, .int .i64 k1, .int .i64 ma])
            clear hx hb h3 h4
            generalize W3.setRow p3 #[.int .i64 mk, .int .i64 k1, .int .i64 ma] = W4 at *
            have hx := hxs
            have hb := hbs
            have h3 := hs3
            have h4 := hs4
            clear hxs hbs hs3 hs4
            refine hK.out _ _ hb (fun hHeld4 => ?_)
            clear hK K hHeld3
            try simp only [List.getElem_toArray, List.getElem_cons_zero, List.getElem_cons_succ, Act.put, List.setIfInBounds_toArray, List.set_cons_zero, List.set_cons_succ]
            refine wpAnyH_ready (rs := [17]) (by kernel_rfl) (by simp) ?_
            refine AllReadyH.cons rfl (fun K hK => ?_) (AllReadyH.nil)
            · refine step_store_at rfl 26 (.tmp 4) (.tmp 24) rfl p4 0 #[.int .i64 zk, .int .i64 za] rfl rfl 26 #[.int .i64 0, .int .i64 0] h4 find_info (Nat.le_refl _) (by simp [Value.oneCell']) ?_
              have hxs : Ext w (W4.setRow p4 #[.int .i64 zk, .int .i64 za]) := Ext.setRow hx hp4 _
              have hbs : Blk (W4.setRow p4 #[.int .i64 zk, .int .i64 za]) g 57 cs := Blk.setRow_other hb _ (by have := HB.out.lt; omega)
              have hs4 : Blk (W4.setRow p4 #[.int .i64 zk, .int .i64 za]) p4 26 #[.int .i64 zk, .int .i64 za] := Blk.setRow h4 _
              have hs3 : Blk (W4.setRow p4 #[.int .i64 zk, .int .i64 za]) p3 80 #[.int .i64 mk, .int .i64 k1, .int .i64 ma] := Blk.setRow_other h3 _ (by omega)
              change K _ (W4.setRow p4 #[.int .i64 zk, .int .i64 za])
              clear hx hb h4 h3
              generalize W4.setRow p4 #[.int .i64 zk, .int .i64 za] = W5 at *
              have hx := hxs
              have hb := hbs
              have h4 := hs4
              have h3 := hs3
              clear hxs hbs hs4 hs3
              refine hK.out _ _ hb (fun hHeld5 => ?_)
              clear hK K hHeld4
              try simp only [List.getElem_toArray, List.getElem_cons_zero, List.getElem_cons_succ, Act.put, List.setIfInBounds_toArray, List.set_cons_zero, List.set_cons_succ]
              refine wpAnyH_take (i := 18) (v := (.int .i64 er)) rfl (by kernel_rfl) (by kernel_rfl) (by kernel_rfl) (fun _ _ _ h => h) (Or.inl ⟨by rfl, by (intro w hSw; go_simp)⟩) hHeld5 ?_
              try simp only [List.getElem_toArray, List.getElem_cons_zero, List.getElem_cons_succ, Act.put, List.setIfInBounds_toArray, List.set_cons_zero, List.set_cons_succ]
              refine wpAnyH_done (by kernel_rfl) ?_ _
              try go_wp2_with fail
              go_meet
              exact ⟨p3, p4, mk, ma, zk, za, er, rfl, rfl, rfl, hp3, hp4, hne, Lib.hid h3, Lib.hid h4, Lib.hid hF, Lib.hid hx⟩
      · go_simp
        replace hb := hb.ext (Ext.alloc W1 (.cells #[.int .i64 0, .int .i64 0, .int .i64 0] 80))
        have hne : W1.heap.size ≠ p4 := by have := h4.lt; omega
        replace h4 := h4.ext (Ext.alloc W1 (.cells #[.int .i64 0, .int .i64 0, .int .i64 0] 80))
        have h3 := Blk.new W1 80 #[.int .i64 0, .int .i64 0, .int .i64 0]
        have hp3 : w.heap.size ≤ W1.heap.size := hx.hsize
        replace hx := hx.to_alloc (.cells #[.int .i64 0, .int .i64 0, .int .i64 0] 80)
        generalize W1.heap.size = p3 at *
        generalize W1.alloc (.cells #[.int .i64 0, .int .i64 0, .int .i64 0] 80) = W2 at *
        refine hK.out _ _ hb (fun hHeld2 => ?_)
        clear hK K hHeld1
        try simp only [List.getElem_toArray, List.getElem_cons_zero, List.getElem_cons_succ, Act.put, List.setIfInBounds_toArray, List.set_cons_zero, List.set_cons_succ]
        refine wpAnyH_ready (rs := [9]) (by kernel_rfl) (by simp) ?_
        refine AllReadyH.cons rfl (fun K hK => ?_) (AllReadyH.nil)
        · refine step_callf rfl 36 #[.agg #[.int .i64 fk, .int .i64 fa], .agg #[.int .i64 k1, .int .i64 k2, .int .i64 k3, .int .i64 k4, .int .i64 k5]] rfl (by kernel_rfl) (fun v w' => ∃ mk ma zk za er : Int, v = .tuple #[.agg #[.int .i64 mk, .int .i64 k1, .int .i64 ma], .agg #[.int .i64 zk, .int .i64 za], .int .i64 er] ∧ FoundIs fk fa k4 k5 mk ma zk za er ∧ Ext W2 w') ((found_all' W2).mono fun e w' ⟨⟨mk, ma, zk, za, er, h1, h2⟩, h3⟩ => ⟨_, h1, mk, ma, zk, za, er, rfl, h2, h3⟩) ?_
          rintro v W3 ⟨mk, ma, zk, za, er, rfl, hF, hxc⟩
          replace hx := hx.trans hxc
          replace hb := hb.ext hxc
          replace h3 := h3.ext hxc
          replace h4 := h4.ext hxc
          clear hxc
          refine hK.out _ _ hb (fun hHeld3 => ?_)
          clear hK K hHeld2
          try simp only [List.getElem_toArray, List.getElem_cons_zero, List.getElem_cons_succ, Act.put, List.setIfInBounds_toArray, List.set_cons_zero, List.set_cons_succ]
          refine wpAnyH_take (i := 10) (v := (.tuple #[.agg #[.int .i64 mk, .int .i64 k1, .int .i64 ma], .agg #[.int .i64 zk, .int .i64 za], .int .i64 er])) rfl (by kernel_rfl) (by kernel_rfl) (by kernel_rfl) (fun _ _ _ h => h) (Or.inl ⟨by rfl, by (intro w hSw; go_simp)⟩) hHeld3 ?_
          try simp only [List.getElem_toArray, List.getElem_cons_zero, List.getElem_cons_succ, Act.put, List.setIfInBounds_toArray, List.set_cons_zero, List.set_cons_succ]
          refine wpAnyH_take (i := 11) (v := (.agg #[.int .i64 mk, .int .i64 k1, .int .i64 ma])) rfl (by kernel_rfl) (by kernel_rfl) (by kernel_rfl) (fun _ _ _ h => h) (Or.inl ⟨by rfl, by (intro w hSw; go_simp)⟩) hHeld3 ?_
          try simp only [List.getElem_toArray, List.getElem_cons_zero, List.getElem_cons_succ, Act.put, List.setIfInBounds_toArray, List.set_cons_zero, List.set_cons_succ]
          refine wpAnyH_take (i := 12) (v := (.agg #[.int .i64 zk, .int .i64 za])) rfl (by kernel_rfl) (by kernel_rfl) (by kernel_rfl) (fun _ _ _ h => h) (Or.inl ⟨by rfl, by (intro w hSw; go_simp)⟩) hHeld3 ?_
          try simp only [List.getElem_toArray, List.getElem_cons_zero, List.getElem_cons_succ, Act.put, List.setIfInBounds_toArray, List.set_cons_zero, List.set_cons_succ]
          refine wpAnyH_take (i := 13) (v := (.int .i64 er)) rfl (by kernel_rfl) (by kernel_rfl) (by kernel_rfl) (fun _ _ _ h => h) (Or.inl ⟨by rfl, by (intro w hSw; go_simp)⟩) hHeld3 ?_
          try simp only [List.getElem_toArray, List.getElem_cons_zero, List.getElem_cons_succ, Act.put, List.setIfInBounds_toArray, List.set_cons_zero, List.set_cons_succ]
          refine wpAnyH_ready (rs := [16]) (by kernel_rfl) (by simp) ?_
          refine AllReadyH.cons rfl (fun K hK => ?_) (AllReadyH.nil)
          · refine step_store_at rfl 80 (.tmp 3) (.tmp 23) rfl p3 0 #[.int .i64 mk, .int .i64 k1, .int .i64 ma] rfl rfl 80 #[.int .i64 0, .int .i64 0, .int .i64 0] h3 move_info (Nat.le_refl _) (by simp [Value.oneCell']) ?_
            have hxs : Ext w (W3.setRow p3 #[.int .i64 mk, .int .i64 k1, .int .i64 ma]) := Ext.setRow hx hp3 _
            have hbs : Blk (W3.setRow p3 #[.int .i64 mk, .int .i64 k1, .int .i64 ma]) g 57 cs := Blk.setRow_other hb _ (by have := HB.out.lt; omega)
            have hs3 : Blk (W3.setRow p3 #[.int .i64 mk, .int .i64 k1, .int .i64 ma]) p3 80 #[.int .i64 mk, .int .i64 k1, .int .i64 ma] := Blk.setRow h3 _
            have hs4 : Blk (W3.setRow p3 #[.int .i64 mk, .int .i64 k1, .int .i64 ma]) p4 26 #[.int .i64 0, .int .i64 0] := Blk.setRow_other h4 _ (by omega)
            change K _ (W3.setRow p3 #[.int .i64 mk, .int .i64 k1, .int .i64 ma])
            clear hx hb h3 h4
            generalize W3.setRow p3 #[.int .i64 mk, .int .i64 k1, .int .i64 ma] = W4 at *
            have hx := hxs
            have hb := hbs
            have h3 := hs3
            have h4 := hs4
            clear hxs hbs hs3 hs4
            refine hK.out _ _ hb (fun hHeld4 => ?_)
            clear hK K hHeld3
            try simp only [List.getElem_toArray, List.getElem_cons_zero, List.getElem_cons_succ, Act.put, List.setIfInBounds_toArray, List.set_cons_zero, List.set_cons_succ]
            refine wpAnyH_ready (rs := [17]) (by kernel_rfl) (by simp) ?_
            refine AllReadyH.cons rfl (fun K hK => ?_) (AllReadyH.nil)
            · refine step_store_at rfl 26 (.tmp 4) (.tmp 24) rfl p4 0 #[.int .i64 zk, .int .i64 za] rfl rfl 26 #[.int .i64 0, .int .i64 0] h4 find_info (Nat.le_refl _) (by simp [Value.oneCell']) ?_
              have hxs : Ext w (W4.setRow p4 #[.int .i64 zk, .int .i64 za]) := Ext.setRow hx hp4 _
              have hbs : Blk (W4.setRow p4 #[.int .i64 zk, .int .i64 za]) g 57 cs := Blk.setRow_other hb _ (by have := HB.out.lt; omega)
              have hs4 : Blk (W4.setRow p4 #[.int .i64 zk, .int .i64 za]) p4 26 #[.int .i64 zk, .int .i64 za] := Blk.setRow h4 _
              have hs3 : Blk (W4.setRow p4 #[.int .i64 zk, .int .i64 za]) p3 80 #[.int .i64 mk, .int .i64 k1, .int .i64 ma] := Blk.setRow_other h3 _ (by omega)
              change K _ (W4.setRow p4 #[.int .i64 zk, .int .i64 za])
              clear hx hb h4 h3
              generalize W4.setRow p4 #[.int .i64 zk, .int .i64 za] = W5 at *
              have hx := hxs
              have hb := hbs
              have h4 := hs4
              have h3 := hs3
              clear hxs hbs hs4 hs3
              refine hK.out _ _ hb (fun hHeld5 => ?_)
              clear hK K hHeld4
              try simp only [List.getElem_toArray, List.getElem_cons_zero, List.getElem_cons_succ, Act.put, List.setIfInBounds_toArray, List.set_cons_zero, List.set_cons_succ]
              refine wpAnyH_take (i := 18) (v := (.int .i64 er)) rfl (by kernel_rfl) (by kernel_rfl) (by kernel_rfl) (fun _ _ _ h => h) (Or.inl ⟨by rfl, by (intro w hSw; go_simp)⟩) hHeld5 ?_
              try simp only [List.getElem_toArray, List.getElem_cons_zero, List.getElem_cons_succ, Act.put, List.setIfInBounds_toArray, List.set_cons_zero, List.set_cons_succ]
              refine wpAnyH_done (by kernel_rfl) ?_ _
              try go_wp2_with fail
              go_meet
              exact ⟨p3, p4, mk, ma, zk, za, er, rfl, rfl, rfl, hp3, hp4, hne, Lib.hid h3, Lib.hid h4, Lib.hid hF, Lib.hid hx⟩
  case rest =>
    obtain ⟨p3, p4, mk, ma, zk, za, er, rfl, rfl, rfl, hp3, hp4, hne, H3, H4, HF, HX⟩ := hcut
    have HG : Hid (g < w.heap.size) := Lib.hid HB.out.lt
    have HM := Lib.hid (HI.out.mid.ext HX.out)
    have HIc := Lib.hid (HI.out.wext HX.out)
    have hln := Lib.hid HI.out.line.len
    clear HV63 HV29 HB
    by_cases her : er = 0
    case neg =>
      have HFl : Hid (DoneIs g w (MoveOk l n a rl k1 k2 k3 k4 k5 fk fa) (MovePost g l n a rl k1 k2 k3 k4 k5 fk fa) (.returned (.int .i64 er)) wc) := Lib.hid (HM.out.fail her (by
        rintro ⟨mk', ma', zk', za', h1, _⟩
        rcases HF.out with ⟨h2, _⟩ | ⟨_, h2⟩
        · exact her h2
        · rw [h2] at h1; cases h1))
      clear hne hp3 hp4 H3 H4 HF HX HM HIc
      go_wp2_with fail
      go_ret
      exact HFl.out
    subst her
    have HFq : Hid (foundF' fk fa k4 k5 = some (mk, ma, zk, za)) := Lib.hid (by
      rcases HF.out with ⟨_, h2⟩ | ⟨h2, _⟩
      · exact h2
      · cases h2)
    clear HF
    have c0 : wc.cell? ⟨g, 0, none⟩ = some (.slice A n c) := HM.out.cell (by omega) HC.out.1
    have c1 : wc.cell? ⟨g, 1, none⟩ = some (.int .i64 (a : Int)) := HM.out.cell (by omega) HC.out.2.1
    have c31 : wc.cell? ⟨g, 31, none⟩ = some (.int .i64 k3) := HM.out.cell (by omega) HC.out.2.2
    have h3 := H3.out
    by_cases hk : k3 = 0
    · subst hk
      have HGo : Hid (∀ wy, Ext wc wy → Calls Try.prog 37 #[.slice A n c, .int .i64 (a : Int), .agg #[.int .i64 mk, .int .i64 k1, .int .i64 ma], .bool false] wy fun e w' => goPost l n a mk k1 ma false e ∧ Ext wy w') := Lib.hid fun wy he =>
        mgo_all (HIc.out.line.ext (HIc.out.ext.trans he)) HIc.out.nums
      go_upto_region 5 with fail
      refine wp_region_held_drew (S := fun w' => w'.cell? ⟨g, 0, none⟩ = some (.slice A n c) ∧ w'.cell? ⟨g, 1, none⟩ = some (.int .i64 (a : Int)) ∧ Blk w' p3 80 #[.int .i64 mk, .int .i64 k1, .int .i64 ma]) (by kernel_rfl) ⟨c0, c1, h3⟩ (fun hHeld => ?_)
      refine wpAnyH_take (i := 0) (v := (.pointer (some ⟨g, 0, none⟩))) rfl (by kernel_rfl) (by kernel_rfl) (by kernel_rfl) (fun _ _ _ h => h) (Or.inl ⟨by rfl, by (intro w hSw; obtain ⟨s0, s1, s2⟩ := hSw; go_simp)⟩) hHeld ?_
      try simp only [List.getElem_toArray, List.getElem_cons_zero, List.getElem_cons_succ, Act.put, List.setIfInBounds_toArray, List.set_cons_zero, List.set_cons_succ]
      refine wpAnyH_take (i := 1) (v := (.pointer (some ⟨g, 0, none⟩))) rfl (by kernel_rfl) (by kernel_rfl) (by kernel_rfl) (fun _ _ _ h => h) (Or.inl ⟨by rfl, by (intro w hSw; obtain ⟨s0, s1, s2⟩ := hSw; go_simp)⟩) hHeld ?_
      try simp only [List.getElem_toArray, List.getElem_cons_zero, List.getElem_cons_succ, Act.put, List.setIfInBounds_toArray, List.set_cons_zero, List.set_cons_succ]
      refine wpAnyH_take (i := 2) (v := (.pointer (some ⟨g, 0, none⟩))) rfl (by kernel_rfl) (by kernel_rfl) (by kernel_rfl) (fun _ _ _ h => h) (Or.inl ⟨by rfl, by (intro w hSw; obtain ⟨s0, s1, s2⟩ := hSw; go_simp)⟩) hHeld ?_
      try simp only [List.getElem_toArray, List.getElem_cons_zero, List.getElem_cons_succ, Act.put, List.setIfInBounds_toArray, List.set_cons_zero, List.set_cons_succ]
      refine wpAnyH_take (i := 3) (v := (.pointer (some ⟨g, 0, none⟩))) rfl (by kernel_rfl) (by kernel_rfl) (by kernel_rfl) (fun _ _ _ h => h) (Or.inl ⟨by rfl, by (intro w hSw; obtain ⟨s0, s1, s2⟩ := hSw; go_simp)⟩) hHeld ?_
      try simp only [List.getElem_toArray, List.getElem_cons_zero, List.getElem_cons_succ, Act.put, List.setIfInBounds_toArray, List.set_cons_zero, List.set_cons_succ]
      refine wpAnyH_take (i := 4) (v := (.slice A n c)) rfl (by kernel_rfl) (by kernel_rfl) (by kernel_rfl) (fun _ _ _ h => h) (Or.inl ⟨by rfl, by (intro w hSw; obtain ⟨s0, s1, s2⟩ := hSw; go_simp)⟩) hHeld ?_
      try simp only [List.getElem_toArray, List.getElem_cons_zero, List.getElem_cons_succ, Act.put, List.setIfInBounds_toArray, List.set_cons_zero, List.set_cons_succ]
      refine wpAnyH_take (i := 5) (v := (.pointer (some ⟨g, 0, none⟩))) rfl (by kernel_rfl) (by kernel_rfl) (by kernel_rfl) (fun _ _ _ h => h) (Or.inl ⟨by rfl, by (intro w hSw; obtain ⟨s0, s1, s2⟩ := hSw; go_simp)⟩) hHeld ?_
      try simp only [List.getElem_toArray, List.getElem_cons_zero, List.getElem_cons_succ, Act.put, List.setIfInBounds_toArray, List.set_cons_zero, List.set_cons_succ]
      refine wpAnyH_take (i := 6) (v := (.pointer (some ⟨g, 0, none⟩))) rfl (by kernel_rfl) (by kernel_rfl) (by kernel_rfl) (fun _ _ _ h => h) (Or.inl ⟨by rfl, by (intro w hSw; obtain ⟨s0, s1, s2⟩ := hSw; go_simp)⟩) hHeld ?_
      try simp only [List.getElem_toArray, List.getElem_cons_zero, List.getElem_cons_succ, Act.put, List.setIfInBounds_toArray, List.set_cons_zero, List.set_cons_succ]
      refine wpAnyH_take (i := 7) (v := (.pointer (some ⟨g, 0, none⟩))) rfl (by kernel_rfl) (by kernel_rfl) (by kernel_rfl) (fun _ _ _ h => h) (Or.inl ⟨by rfl, by (intro w hSw; obtain ⟨s0, s1, s2⟩ := hSw; go_simp)⟩) hHeld ?_
      try simp only [List.getElem_toArray, List.getElem_cons_zero, List.getElem_cons_succ, Act.put, List.setIfInBounds_toArray, List.set_cons_zero, List.set_cons_succ]
      refine wpAnyH_take (i := 8) (v := (.pointer (some ⟨g, 1, none⟩))) rfl (by kernel_rfl) (by kernel_rfl) (by kernel_rfl) (fun _ _ _ h => h) (Or.inl ⟨by rfl, by (intro w hSw; obtain ⟨s0, s1, s2⟩ := hSw; go_simp)⟩) hHeld ?_
      try simp only [List.getElem_toArray, List.getElem_cons_zero, List.getElem_cons_succ, Act.put, List.setIfInBounds_toArray, List.set_cons_zero, List.set_cons_succ]
      refine wpAnyH_take (i := 9) (v := (.int .i64 (a : Int))) rfl (by kernel_rfl) (by kernel_rfl) (by kernel_rfl) (fun _ _ _ h => h) (Or.inl ⟨by rfl, by (intro w hSw; obtain ⟨s0, s1, s2⟩ := hSw; go_simp)⟩) hHeld ?_
      try simp only [List.getElem_toArray, List.getElem_cons_zero, List.getElem_cons_succ, Act.put, List.setIfInBounds_toArray, List.set_cons_zero, List.set_cons_succ]
      refine wpAnyH_take (i := 10) (v := (.agg #[.int .i64 mk, .int .i64 k1, .int .i64 ma])) rfl (by kernel_rfl) (by kernel_rfl) (by kernel_rfl) (fun _ _ _ h => h) (Or.inl ⟨by rfl, by (intro w hSw; exact run_load_at rfl 80 (.tmp 3) rfl p3 0 rfl 80 #[.int .i64 mk, .int .i64 k1, .int .i64 ma] #[.int .i64 mk, .int .i64 k1, .int .i64 ma] (0, 0) _ hSw.2.2 (fun j v h => by simpa using h) Try.underlying80 rfl move_info)⟩) hHeld ?_
      try simp only [List.getElem_toArray, List.getElem_cons_zero, List.getElem_cons_succ, Act.put, List.setIfInBounds_toArray, List.set_cons_zero, List.set_cons_succ]
      refine wpAnyH_ready (rs := [11]) (by kernel_rfl) (by simp) ?_
      refine AllReadyH.cons rfl (fun K hK => ?_) AllReadyH.nil
      refine step_callf rfl 37 #[.slice A n c, .int .i64 (a : Int), .agg #[.int .i64 mk, .int .i64 k1, .int .i64 ma], .bool false] rfl (by kernel_rfl) (fun v w' => ∃ (x : Int) (i : Bool) (er : Int), v = .tuple #[.int .i64 x, .bool i, .int .i64 er] ∧ goPost l n a mk k1 ma false (.returned v) ∧ Ext wc.drew w') ((HGo.out _ (Ext.drew wc)).mono fun e w' ⟨h1, h2⟩ => by obtain ⟨x, i, er, rfl⟩ := goPost_three h1; exact ⟨_, rfl, x, i, er, rfl, h1, h2⟩) ?_
      rintro v W1 ⟨x, i, er, rfl, hR, hxc⟩
      refine hK.out _ _ ⟨hxc.cell c0, hxc.cell c1, h3.ext ((Ext.drew wc).trans hxc)⟩ (fun hHeld2 => ?_)
      clear hK K hHeld
      try simp only [List.getElem_toArray, List.getElem_cons_zero, List.getElem_cons_succ, Act.put, List.setIfInBounds_toArray, List.set_cons_zero, List.set_cons_succ]
      refine wpAnyH_take (i := 12) (v := (.tuple #[.int .i64 x, .bool i, .int .i64 er])) rfl (by kernel_rfl) (by kernel_rfl) (by kernel_rfl) (fun _ _ _ h => h) (Or.inl ⟨by rfl, by (intro w hSw; obtain ⟨s0, s1, s2⟩ := hSw; go_simp)⟩) hHeld2 ?_
      try simp only [List.getElem_toArray, List.getElem_cons_zero, List.getElem_cons_succ, Act.put, List.setIfInBounds_toArray, List.set_cons_zero, List.set_cons_succ]
      refine wpAnyH_take (i := 13) (v := (.int .i64 x)) rfl (by kernel_rfl) (by kernel_rfl) (by kernel_rfl) (fun _ _ _ h => h) (Or.inl ⟨by rfl, by (intro w hSw; obtain ⟨s0, s1, s2⟩ := hSw; go_simp)⟩) hHeld2 ?_
      try simp only [List.getElem_toArray, List.getElem_cons_zero, List.getElem_cons_succ, Act.put, List.setIfInBounds_toArray, List.set_cons_zero, List.set_cons_succ]
      refine wpAnyH_take (i := 14) (v := (.bool i)) rfl (by kernel_rfl) (by kernel_rfl) (by kernel_rfl) (fun _ _ _ h => h) (Or.inl ⟨by rfl, by (intro w hSw; obtain ⟨s0, s1, s2⟩ := hSw; go_simp)⟩) hHeld2 ?_
      try simp only [List.getElem_toArray, List.getElem_cons_zero, List.getElem_cons_succ, Act.put, List.setIfInBounds_toArray, List.set_cons_zero, List.set_cons_succ]
      refine wpAnyH_take (i := 15) (v := (.int .i64 er)) rfl (by kernel_rfl) (by kernel_rfl) (by kernel_rfl) (fun _ _ _ h => h) (Or.inl ⟨by rfl, by (intro w hSw; obtain ⟨s0, s1, s2⟩ := hSw; go_simp)⟩) hHeld2 ?_
      try simp only [List.getElem_toArray, List.getElem_cons_zero, List.getElem_cons_succ, Act.put, List.setIfInBounds_toArray, List.set_cons_zero, List.set_cons_succ]
      refine wpAnyH_take (i := 16) (v := (.int .i64 x)) rfl (by kernel_rfl) (by kernel_rfl) (by kernel_rfl) (fun _ _ _ h => h) (Or.inl ⟨by rfl, by (intro w hSw; obtain ⟨s0, s1, s2⟩ := hSw; go_simp)⟩) hHeld2 ?_
      try simp only [List.getElem_toArray, List.getElem_cons_zero, List.getElem_cons_succ, Act.put, List.setIfInBounds_toArray, List.set_cons_zero, List.set_cons_succ]
      refine wpAnyH_take (i := 17) (v := (.bool i)) rfl (by kernel_rfl) (by kernel_rfl) (by kernel_rfl) (fun _ _ _ h => h) (Or.inl ⟨by rfl, by (intro w hSw; obtain ⟨s0, s1, s2⟩ := hSw; go_simp)⟩) hHeld2 ?_
      try simp only [List.getElem_toArray, List.getElem_cons_zero, List.getElem_cons_succ, Act.put, List.setIfInBounds_toArray, List.set_cons_zero, List.set_cons_succ]
      refine wpAnyH_take (i := 18) (v := (.int .i64 er)) rfl (by kernel_rfl) (by kernel_rfl) (by kernel_rfl) (fun _ _ _ h => h) (Or.inl ⟨by rfl, by (intro w hSw; obtain ⟨s0, s1, s2⟩ := hSw; go_simp)⟩) hHeld2 ?_
      try simp only [List.getElem_toArray, List.getElem_cons_zero, List.getElem_cons_succ, Act.put, List.setIfInBounds_toArray, List.set_cons_zero, List.set_cons_succ]
      refine wpAnyH_done (by kernel_rfl) ?_ _
      clear c0 c1 c31 h3 hHeld2 HGo
      have hm1 := (HM.out.ext (Ext.drew wc)).ext hxc
      have c35 := hm1.oat
      have f35 := hm1.blk.frozen 35
      have h4 := (H4.out.ext (Ext.drew wc)).ext hxc
      have HM1 := Lib.hid hm1
      have H41 := Lib.hid h4
      clear H3 H4 HM HIc HX hxc hm1 h4
      rcases goPost_ok hln.out hR with ⟨rfl, hG⟩ | ⟨her, hG⟩
      case inr =>
        have HFl : Hid (DoneIs g w (MoveOk l n a rl k1 k2 0 k4 k5 fk fa) (MovePost g l n a rl k1 k2 0 k4 k5 fk fa) (.returned (.int .i64 er)) W1) := Lib.hid (HM1.out.fail her (by
          rintro ⟨mk', ma', zk', za', h1, h2, h3, _⟩
          rw [HFq.out] at h1
          injection h1 with h1
          simp at h1
          obtain ⟨rfl, rfl, rfl, rfl⟩ := h1
          exact hG ⟨h2, by simpa using h3⟩))
        clear hG hR
        go_wp2_with fail
        go_ret
        exact HFl.out
      case inl =>
        have HGI := Lib.hid hG
        clear hG hR
        go_upto_region 7 with fail
        have hm2 : MidIs w g cs (W1.setCell ⟨g, 35, none⟩ (.int .i64 x)).drew (cs.setIfInBounds 35 (.int .i64 x)) l x 0 fk fa rl [] := (HM1.out.setAt x).ext (Ext.drew _)
        have h4d : Blk W1.drew p4 26 #[.int .i64 zk, .int .i64 za] := H41.out.ext (Ext.drew _)
        have S2 : Blk (W1.setCell ⟨g, 35, none⟩ (.int .i64 x)).drew p4 26 #[.int .i64 zk, .int .i64 za] := set_other H41.out (show g ≠ p4 by have := HG.out; omega) 35 _
        have S3 := Blk.setRow_other S2 (g' := g) (seg (cs.setIfInBounds 35 (.int .i64 x)) 63 #[.int .i64 zk, .int .i64 za]) (show p4 ≠ g by have := HG.out; omega)
        have HM3 := Lib.hid (hm2.setFind zk za)
        refine wp_region_held_drew (S := fun w' => Blk w' p4 26 #[.int .i64 zk, .int .i64 za]) (by kernel_rfl) h4d (fun hHeld => ?_)
        refine wpAnyH_take (i := 0) (v := (.pointer (some ⟨g, 0, none⟩))) rfl (by kernel_rfl) (by kernel_rfl) (by kernel_rfl) (fun _ _ _ h => h) (Or.inl ⟨by rfl, by (intro w hSw; go_simp)⟩) hHeld ?_
        try simp only [List.getElem_toArray, List.getElem_cons_zero, List.getElem_cons_succ, Act.put, List.setIfInBounds_toArray, List.set_cons_zero, List.set_cons_succ]
        refine wpAnyH_take (i := 1) (v := (.pointer (some ⟨g, 0, none⟩))) rfl (by kernel_rfl) (by kernel_rfl) (by kernel_rfl) (fun _ _ _ h => h) (Or.inl ⟨by rfl, by (intro w hSw; go_simp)⟩) hHeld ?_
        try simp only [List.getElem_toArray, List.getElem_cons_zero, List.getElem_cons_succ, Act.put, List.setIfInBounds_toArray, List.set_cons_zero, List.set_cons_succ]
        refine wpAnyH_take (i := 2) (v := (.int .i64 x)) rfl (by kernel_rfl) (by kernel_rfl) (by kernel_rfl) (fun _ _ _ h => h) (Or.inl ⟨by rfl, by (intro w hSw; go_simp)⟩) hHeld ?_
        try simp only [List.getElem_toArray, List.getElem_cons_zero, List.getElem_cons_succ, Act.put, List.setIfInBounds_toArray, List.set_cons_zero, List.set_cons_succ]
        refine wpAnyH_take (i := 3) (v := (.agg #[.int .i64 zk, .int .i64 za])) rfl (by kernel_rfl) (by kernel_rfl) (by kernel_rfl) (fun _ _ _ h => h) (Or.inl ⟨by rfl, by (intro w hSw; exact run_load_at rfl 26 (.tmp 4) rfl p4 0 rfl 26 #[.int .i64 zk, .int .i64 za] #[.int .i64 zk, .int .i64 za] (0, 0) _ hSw (fun j v h => by simpa using h) Try.underlying26 rfl find_info)⟩) hHeld ?_
        try simp only [List.getElem_toArray, List.getElem_cons_zero, List.getElem_cons_succ, Act.put, List.setIfInBounds_toArray, List.set_cons_zero, List.set_cons_succ]
        refine wpAnyH_take (i := 4) (v := (.pointer (some ⟨g, 0, none⟩))) rfl (by kernel_rfl) (by kernel_rfl) (by kernel_rfl) (fun _ _ _ h => h) (Or.inl ⟨by rfl, by (intro w hSw; go_simp)⟩) hHeld ?_
        try simp only [List.getElem_toArray, List.getElem_cons_zero, List.getElem_cons_succ, Act.put, List.setIfInBounds_toArray, List.set_cons_zero, List.set_cons_succ]
        refine wpAnyH_take (i := 5) (v := (.pointer (some ⟨g, 34, none⟩))) rfl (by kernel_rfl) (by kernel_rfl) (by kernel_rfl) (fun _ _ _ h => h) (Or.inl ⟨by rfl, by (intro w hSw; go_simp)⟩) hHeld ?_
        try simp only [List.getElem_toArray, List.getElem_cons_zero, List.getElem_cons_succ, Act.put, List.setIfInBounds_toArray, List.set_cons_zero, List.set_cons_succ]
        refine wpAnyH_take (i := 6) (v := (.pointer (some ⟨g, 34, none⟩))) rfl (by kernel_rfl) (by kernel_rfl) (by kernel_rfl) (fun _ _ _ h => h) (Or.inl ⟨by rfl, by (intro w hSw; go_simp)⟩) hHeld ?_
        try simp only [List.getElem_toArray, List.getElem_cons_zero, List.getElem_cons_succ, Act.put, List.setIfInBounds_toArray, List.set_cons_zero, List.set_cons_succ]
        refine wpAnyH_take (i := 7) (v := (.pointer (some ⟨g, 35, none⟩))) rfl (by kernel_rfl) (by kernel_rfl) (by kernel_rfl) (fun _ _ _ h => h) (Or.inl ⟨by rfl, by (intro w hSw; go_simp)⟩) hHeld ?_
        try simp only [List.getElem_toArray, List.getElem_cons_zero, List.getElem_cons_succ, Act.put, List.setIfInBounds_toArray, List.set_cons_zero, List.set_cons_succ]
        refine wpAnyH_ready (rs := [8]) (by kernel_rfl) (by simp) ?_
        refine AllReadyH.cons rfl (fun K hK => ?_) AllReadyH.nil
        go_simp
        refine hK.out _ _ (S2 : Blk (W1.setCell ⟨g, 35, none⟩ (.int .i64 x)).drew p4 26 #[.int .i64 zk, .int .i64 za]) (fun hHeld2 => ?_)
        clear hK K hHeld
        try simp only [List.getElem_toArray, List.getElem_cons_zero, List.getElem_cons_succ, Act.put, List.setIfInBounds_toArray, List.set_cons_zero, List.set_cons_succ]
        refine wpAnyH_take (i := 9) (v := (.pointer (some ⟨g, 0, none⟩))) rfl (by kernel_rfl) (by kernel_rfl) (by kernel_rfl) (fun _ _ _ h => h) (Or.inl ⟨by rfl, by (intro w hSw; go_simp)⟩) hHeld2 ?_
        try simp only [List.getElem_toArray, List.getElem_cons_zero, List.getElem_cons_succ, Act.put, List.setIfInBounds_toArray, List.set_cons_zero, List.set_cons_succ]
        refine wpAnyH_take (i := 10) (v := (.pointer (some ⟨g, 34, none⟩))) rfl (by kernel_rfl) (by kernel_rfl) (by kernel_rfl) (fun _ _ _ h => h) (Or.inl ⟨by rfl, by (intro w hSw; go_simp)⟩) hHeld2 ?_
        try simp only [List.getElem_toArray, List.getElem_cons_zero, List.getElem_cons_succ, Act.put, List.setIfInBounds_toArray, List.set_cons_zero, List.set_cons_succ]
        refine wpAnyH_take (i := 11) (v := (.pointer (some ⟨g, 63, none⟩))) rfl (by kernel_rfl) (by kernel_rfl) (by kernel_rfl) (fun _ _ _ h => h) (Or.inl ⟨by rfl, by (intro w hSw; go_simp)⟩) hHeld2 ?_
        try simp only [List.getElem_toArray, List.getElem_cons_zero, List.getElem_cons_succ, Act.put, List.setIfInBounds_toArray, List.set_cons_zero, List.set_cons_succ]
        refine wpAnyH_ready (rs := [12]) (by kernel_rfl) (by simp) ?_
        refine AllReadyH.cons rfl (fun K hK => ?_) AllReadyH.nil
        refine step_store_at rfl 26 (.tmp 63) (.tmp 56) rfl g 63 #[.int .i64 zk, .int .i64 za] rfl rfl 57 _ hm2.blk find_info (by rw [hm2.out.size]; exact (by decide : 65 ≤ 67)) (by simp [Value.oneCell']) ?_
        refine hK.out _ _ S3 (fun hHeld3 => ?_)
        clear hK K hHeld2
        try simp only [List.getElem_toArray, List.getElem_cons_zero, List.getElem_cons_succ, Act.put, List.setIfInBounds_toArray, List.set_cons_zero, List.set_cons_succ]
        refine wpAnyH_done (by kernel_rfl) ?_ _
        have HFl : Hid (DoneIs g w (MoveOk l n a rl k1 k2 0 k4 k5 fk fa) (MovePost g l n a rl k1 k2 0 k4 k5 fk fa) (.returned (.int .i64 0)) _) := Lib.hid (HM3.out.done ⟨mk, ma, zk, za, HFq.out, .inl ⟨rfl, x, HGI.out, HM3.out.out⟩⟩)
        clear hm2 h4d S2 S3 HM3 HGI hHeld3 c35 f35
        go_wp2_with fail
        go_ret
        exact HFl.out
    · have hkb : (k3 == 0) = false := by simp [hk]
      have HRg : Hid (∀ wy, Ext wc wy → Calls Try.prog 38 #[.slice A n c, .int .i64 (a : Int), .agg #[.int .i64 mk, .int .i64 k1, .int .i64 ma]] wy fun e w' => rangePost l n a mk k1 ma e ∧ Ext wy w') := Lib.hid fun wy he =>
        mrange_ok (HIc.out.line.ext (HIc.out.ext.trans he)) HIc.out.nums
      have HK := Lib.hid hk
      have HK3 : Hid (k3 = 100 ∨ k3 = 99 ∨ k3 = 121) := Lib.hid (hk3.resolve_left hk)
      clear hk hk3
      go_upto_region 9 with fail
      refine wp_region_held_drew (S := fun w' => w'.cell? ⟨g, 0, none⟩ = some (.slice A n c) ∧ w'.cell? ⟨g, 1, none⟩ = some (.int .i64 (a : Int)) ∧ Blk w' p3 80 #[.int .i64 mk, .int .i64 k1, .int .i64 ma]) (by kernel_rfl) ⟨c0, c1, h3⟩ (fun hHeld => ?_)
      refine wpAnyH_take (i := 0) (v := (.pointer (some ⟨g, 0, none⟩))) rfl (by kernel_rfl) (by kernel_rfl) (by kernel_rfl) (fun _ _ _ h => h) (Or.inl ⟨by rfl, by (intro w hSw; obtain ⟨s0, s1, s2⟩ := hSw; go_simp)⟩) hHeld ?_
      try simp only [List.getElem_toArray, List.getElem_cons_zero, List.getElem_cons_succ, Act.put, List.setIfInBounds_toArray, List.set_cons_zero, List.set_cons_succ]
      refine wpAnyH_take (i := 1) (v := (.pointer (some ⟨g, 0, none⟩))) rfl (by kernel_rfl) (by kernel_rfl) (by kernel_rfl) (fun _ _ _ h => h) (Or.inl ⟨by rfl, by (intro w hSw; obtain ⟨s0, s1, s2⟩ := hSw; go_simp)⟩) hHeld ?_
      try simp only [List.getElem_toArray, List.getElem_cons_zero, List.getElem_cons_succ, Act.put, List.setIfInBounds_toArray, List.set_cons_zero, List.set_cons_succ]
      refine wpAnyH_take (i := 2) (v := (.pointer (some ⟨g, 0, none⟩))) rfl (by kernel_rfl) (by kernel_rfl) (by kernel_rfl) (fun _ _ _ h => h) (Or.inl ⟨by rfl, by (intro w hSw; obtain ⟨s0, s1, s2⟩ := hSw; go_simp)⟩) hHeld ?_
      try simp only [List.getElem_toArray, List.getElem_cons_zero, List.getElem_cons_succ, Act.put, List.setIfInBounds_toArray, List.set_cons_zero, List.set_cons_succ]
      refine wpAnyH_take (i := 3) (v := (.pointer (some ⟨g, 0, none⟩))) rfl (by kernel_rfl) (by kernel_rfl) (by kernel_rfl) (fun _ _ _ h => h) (Or.inl ⟨by rfl, by (intro w hSw; obtain ⟨s0, s1, s2⟩ := hSw; go_simp)⟩) hHeld ?_
      try simp only [List.getElem_toArray, List.getElem_cons_zero, List.getElem_cons_succ, Act.put, List.setIfInBounds_toArray, List.set_cons_zero, List.set_cons_succ]
      refine wpAnyH_take (i := 4) (v := (.slice A n c)) rfl (by kernel_rfl) (by kernel_rfl) (by kernel_rfl) (fun _ _ _ h => h) (Or.inl ⟨by rfl, by (intro w hSw; obtain ⟨s0, s1, s2⟩ := hSw; go_simp)⟩) hHeld ?_
      try simp only [List.getElem_toArray, List.getElem_cons_zero, List.getElem_cons_succ, Act.put, List.setIfInBounds_toArray, List.set_cons_zero, List.set_cons_succ]
      refine wpAnyH_take (i := 5) (v := (.pointer (some ⟨g, 0, none⟩))) rfl (by kernel_rfl) (by kernel_rfl) (by kernel_rfl) (fun _ _ _ h => h) (Or.inl ⟨by rfl, by (intro w hSw; obtain ⟨s0, s1, s2⟩ := hSw; go_simp)⟩) hHeld ?_
      try simp only [List.getElem_toArray, List.getElem_cons_zero, List.getElem_cons_succ, Act.put, List.setIfInBounds_toArray, List.set_cons_zero, List.set_cons_succ]
      refine wpAnyH_take (i := 6) (v := (.pointer (some ⟨g, 0, none⟩))) rfl (by kernel_rfl) (by kernel_rfl) (by kernel_rfl) (fun _ _ _ h => h) (Or.inl ⟨by rfl, by (intro w hSw; obtain ⟨s0, s1, s2⟩ := hSw; go_simp)⟩) hHeld ?_
      try simp only [List.getElem_toArray, List.getElem_cons_zero, List.getElem_cons_succ, Act.put, List.setIfInBounds_toArray, List.set_cons_zero, List.set_cons_succ]
      refine wpAnyH_take (i := 7) (v := (.pointer (some ⟨g, 0, none⟩))) rfl (by kernel_rfl) (by kernel_rfl) (by kernel_rfl) (fun _ _ _ h => h) (Or.inl ⟨by rfl, by (intro w hSw; obtain ⟨s0, s1, s2⟩ := hSw; go_simp)⟩) hHeld ?_
      try simp only [List.getElem_toArray, List.getElem_cons_zero, List.getElem_cons_succ, Act.put, List.setIfInBounds_toArray, List.set_cons_zero, List.set_cons_succ]
      refine wpAnyH_take (i := 8) (v := (.pointer (some ⟨g, 1, none⟩))) rfl (by kernel_rfl) (by kernel_rfl) (by kernel_rfl) (fun _ _ _ h => h) (Or.inl ⟨by rfl, by (intro w hSw; obtain ⟨s0, s1, s2⟩ := hSw; go_simp)⟩) hHeld ?_
      try simp only [List.getElem_toArray, List.getElem_cons_zero, List.getElem_cons_succ, Act.put, List.setIfInBounds_toArray, List.set_cons_zero, List.set_cons_succ]
      refine wpAnyH_take (i := 9) (v := (.int .i64 (a : Int))) rfl (by kernel_rfl) (by kernel_rfl) (by kernel_rfl) (fun _ _ _ h => h) (Or.inl ⟨by rfl, by (intro w hSw; obtain ⟨s0, s1, s2⟩ := hSw; go_simp)⟩) hHeld ?_
      try simp only [List.getElem_toArray, List.getElem_cons_zero, List.getElem_cons_succ, Act.put, List.setIfInBounds_toArray, List.set_cons_zero, List.set_cons_succ]
      refine wpAnyH_take (i := 10) (v := (.agg #[.int .i64 mk, .int .i64 k1, .int .i64 ma])) rfl (by kernel_rfl) (by kernel_rfl) (by kernel_rfl) (fun _ _ _ h => h) (Or.inl ⟨by rfl, by (intro w hSw; exact run_load_at rfl 80 (.tmp 3) rfl p3 0 rfl 80 #[.int .i64 mk, .int .i64 k1, .int .i64 ma] #[.int .i64 mk, .int .i64 k1, .int .i64 ma] (0, 0) _ hSw.2.2 (fun j v h => by simpa using h) Try.underlying80 rfl move_info)⟩) hHeld ?_
      try simp only [List.getElem_toArray, List.getElem_cons_zero, List.getElem_cons_succ, Act.put, List.setIfInBounds_toArray, List.set_cons_zero, List.set_cons_succ]
      refine wpAnyH_ready (rs := [11]) (by kernel_rfl) (by simp) ?_
      refine AllReadyH.cons rfl (fun K hK => ?_) AllReadyH.nil
      refine step_callf rfl 38 #[.slice A n c, .int .i64 (a : Int), .agg #[.int .i64 mk, .int .i64 k1, .int .i64 ma]] rfl (by kernel_rfl) (fun v w' => ∃ (x y er : Int), v = .tuple #[.int .i64 x, .int .i64 y, .int .i64 er] ∧ rangePost l n a mk k1 ma (.returned v) ∧ Ext wc.drew w') ((HRg.out _ (Ext.drew wc)).mono fun e w' ⟨h1, h2⟩ => by obtain ⟨x, y, er, rfl⟩ := rangePost_three h1; exact ⟨_, rfl, x, y, er, rfl, h1, h2⟩) ?_
      rintro v W1 ⟨x, y, er, rfl, hR, hxc⟩
      refine hK.out _ _ ⟨hxc.cell c0, hxc.cell c1, h3.ext ((Ext.drew wc).trans hxc)⟩ (fun hHeld2 => ?_)
      clear hK K hHeld
      try simp only [List.getElem_toArray, List.getElem_cons_zero, List.getElem_cons_succ, Act.put, List.setIfInBounds_toArray, List.set_cons_zero, List.set_cons_succ]
      refine wpAnyH_take (i := 12) (v := (.tuple #[.int .i64 x, .int .i64 y, .int .i64 er])) rfl (by kernel_rfl) (by kernel_rfl) (by kernel_rfl) (fun _ _ _ h => h) (Or.inl ⟨by rfl, by (intro w hSw; obtain ⟨s0, s1, s2⟩ := hSw; go_simp)⟩) hHeld2 ?_
      try simp only [List.getElem_toArray, List.getElem_cons_zero, List.getElem_cons_succ, Act.put, List.setIfInBounds_toArray, List.set_cons_zero, List.set_cons_succ]
      refine wpAnyH_take (i := 13) (v := (.int .i64 x)) rfl (by kernel_rfl) (by kernel_rfl) (by kernel_rfl) (fun _ _ _ h => h) (Or.inl ⟨by rfl, by (intro w hSw; obtain ⟨s0, s1, s2⟩ := hSw; go_simp)⟩) hHeld2 ?_
      try simp only [List.getElem_toArray, List.getElem_cons_zero, List.getElem_cons_succ, Act.put, List.setIfInBounds_toArray, List.set_cons_zero, List.set_cons_succ]
      refine wpAnyH_take (i := 14) (v := (.int .i64 y)) rfl (by kernel_rfl) (by kernel_rfl) (by kernel_rfl) (fun _ _ _ h => h) (Or.inl ⟨by rfl, by (intro w hSw; obtain ⟨s0, s1, s2⟩ := hSw; go_simp)⟩) hHeld2 ?_
      try simp only [List.getElem_toArray, List.getElem_cons_zero, List.getElem_cons_succ, Act.put, List.setIfInBounds_toArray, List.set_cons_zero, List.set_cons_succ]
      refine wpAnyH_take (i := 15) (v := (.int .i64 er)) rfl (by kernel_rfl) (by kernel_rfl) (by kernel_rfl) (fun _ _ _ h => h) (Or.inl ⟨by rfl, by (intro w hSw; obtain ⟨s0, s1, s2⟩ := hSw; go_simp)⟩) hHeld2 ?_
      try simp only [List.getElem_toArray, List.getElem_cons_zero, List.getElem_cons_succ, Act.put, List.setIfInBounds_toArray, List.set_cons_zero, List.set_cons_succ]
      refine wpAnyH_take (i := 16) (v := (.int .i64 x)) rfl (by kernel_rfl) (by kernel_rfl) (by kernel_rfl) (fun _ _ _ h => h) (Or.inl ⟨by rfl, by (intro w hSw; obtain ⟨s0, s1, s2⟩ := hSw; go_simp)⟩) hHeld2 ?_
      try simp only [List.getElem_toArray, List.getElem_cons_zero, List.getElem_cons_succ, Act.put, List.setIfInBounds_toArray, List.set_cons_zero, List.set_cons_succ]
      refine wpAnyH_take (i := 17) (v := (.int .i64 y)) rfl (by kernel_rfl) (by kernel_rfl) (by kernel_rfl) (fun _ _ _ h => h) (Or.inl ⟨by rfl, by (intro w hSw; obtain ⟨s0, s1, s2⟩ := hSw; go_simp)⟩) hHeld2 ?_
      try simp only [List.getElem_toArray, List.getElem_cons_zero, List.getElem_cons_succ, Act.put, List.setIfInBounds_toArray, List.set_cons_zero, List.set_cons_succ]
      refine wpAnyH_take (i := 18) (v := (.int .i64 er)) rfl (by kernel_rfl) (by kernel_rfl) (by kernel_rfl) (fun _ _ _ h => h) (Or.inl ⟨by rfl, by (intro w hSw; obtain ⟨s0, s1, s2⟩ := hSw; go_simp)⟩) hHeld2 ?_
      try simp only [List.getElem_toArray, List.getElem_cons_zero, List.getElem_cons_succ, Act.put, List.setIfInBounds_toArray, List.set_cons_zero, List.set_cons_succ]
      refine wpAnyH_done (by kernel_rfl) ?_ _
      clear c0 c1 c31 h3 hHeld2 HRg hkb
      have HI1 := Lib.hid ((HIc.out.wext (Ext.drew wc)).wext hxc)
      have H41 := Lib.hid ((H4.out.ext (Ext.drew wc)).ext hxc)
      have HM1 := Lib.hid ((HM.out.ext (Ext.drew wc)).ext hxc)
      clear H3 H4 HM HIc HX hxc
      rcases rangePost_ok hR with ⟨rfl, f, t, rfl, rfl, hrg⟩ | ⟨her, hG⟩
      case inr =>
        have HFl : Hid (DoneIs g w (MoveOk l n a rl k1 k2 k3 k4 k5 fk fa) (MovePost g l n a rl k1 k2 k3 k4 k5 fk fa) (.returned (.int .i64 er)) W1) := Lib.hid (HM1.out.fail her (by
          rintro ⟨mk', ma', zk', za', h1, h2, h3, _⟩
          rw [HFq.out] at h1
          injection h1 with h1
          simp at h1
          obtain ⟨rfl, rfl, rfl, rfl⟩ := h1
          exact hG ⟨h2, by simpa [HK.out] using h3⟩))
        clear hG hR
        go_wp2_with fail
        go_ret
        exact HFl.out
      case inl =>
        have HRI := Lib.hid hrg
        have hbd := hrg.bd HI1.out.place
        have HOp := Lib.hid (operate_ok (f := f) (t := t) (whole := false) HI1.out hbd.2.2.1 hbd.2.2.2 HK3.out)
        clear hR hrg hbd
        go_wp2_with fail
        refine HOp.out.mono ?_
        rintro e W2 ⟨er2, cs2, rfl, hgr, hOk, hok⟩
        have HGR := Lib.hid (grows_trans HM1.out.grown hgr)
        by_cases he2 : er2 = 0
        case neg =>
          have HFl : Hid (DoneIs g w (MoveOk l n a rl k1 k2 k3 k4 k5 fk fa) (MovePost g l n a rl k1 k2 k3 k4 k5 fk fa) (.returned (.int .i64 er2)) W2) := Lib.hid ⟨er2, cs2, rfl, HGR.out, (by
            rintro ⟨mk', ma', zk', za', h1, h2, h3, h4⟩
            rw [HFq.out] at h1
            injection h1 with h1
            simp at h1
            obtain ⟨rfl, rfl, rfl, rfl⟩ := h1
            exact hOk (h4 HK.out f t HRI.out)), fun h => absurd h he2⟩
          clear hgr hOk hok HOp
          go_wp2_with fail
          go_ret
          exact HFl.out
        subst he2
        obtain ⟨hb2, hz2, hone2, m, at_, md, rl', e', hout, hrel⟩ := hok rfl
        have HB2 := Lib.hid hb2
        have HZ2 := Lib.hid hz2
        have H42 := Lib.hid (Blk.grown H41.out hgr (fun e => by injection e with e; have := HG.out; omega))
        have HM3 : Hid (DoneIs g w (MoveOk l n a rl k1 k2 k3 k4 k5 fk fa) (MovePost g l n a rl k1 k2 k3 k4 k5 fk fa) (.returned (.int .i64 0)) (W2.setRow g (seg cs2 63 #[.int .i64 zk, .int .i64 za]))) := Lib.hid (by
          have ho3 := (hout.grown (setRow_grown W2 g (seg cs2 63 #[.int .i64 zk, .int .i64 za])) (Nat.lt_succ_self g)).setFind zk za
          exact ⟨0, _, rfl, grows_trans HGR.out (setRow_grown W2 g _), fun _ => rfl, fun _ => ⟨Blk.setRow hb2 _, ho3.size, ho3.one, mk, ma, zk, za, HFq.out, .inr ⟨HK.out, f, t, m, at_, md, rl', e', HRI.out, ho3, hrel⟩⟩⟩)
        clear hb2 hz2 hone2 hout hrel hgr hOk hok HOp HM1 HI1 H41
        go_wp2_with (first
          | (refine wpList_load_row rfl 26 (.tmp 4) rfl p4 rfl 26 #[.int .i64 zk, .int .i64 za] (0, 0) _ H42.out Try.underlying26 rfl find_info ?_)
          | (refine wpList_store_at rfl 26 (.tmp 95) (.tmp 92) rfl g 63 #[.int .i64 zk, .int .i64 za] rfl rfl 57 cs2 HB2.out find_info (by rw [HZ2.out]; exact (by decide : 65 ≤ 67)) (by simp [Value.oneCell']) ?_))
        go_ret
        exact HM3.out
end Go.Proofs.Ytmhgndjmcignjaa
