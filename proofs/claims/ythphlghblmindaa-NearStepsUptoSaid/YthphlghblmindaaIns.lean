/-
  slices.Insert of one number and slices.Delete of one, over a row of the call's own: what comes back reads so; what lay below is as it was.
-/
import Derived.Test.YthphlghblmindaaInsL
namespace Go.Proofs.Ythphlghblmindaa
open Go.RowKit Go.Shelf Go.Sort
set_option linter.unusedVariables false

theorem below_setCells {B : Nat} {w : World} : ∀ (us : List Value) (o : Nat) {x : World} {b : Nat}, Below B w x → B ≤ b → Below B w (x.setCells b o us)
  | [], _, _, _, h, _ => h
  | u :: us, o, x, b, h, hb => by
    rw [World.setCells]
    exact below_setCells us (o + 1) (Below.setCell h hb u) hb
theorem below_putRow {B : Nat} {w : World} {q b off : Nat} {d : Array Int} (hb : B ≤ b) : Below B w (putRow (Value.int .i64) (Sort.ahead w q) b off d) := by
  refine ⟨rfl, rfl, rfl, ?_, fun k hk => ?_⟩
  · rw [size_putRow]; exact Nat.le_refl _
  · show (w.heap.modify b _)[k]? = _
    rw [Array.getElem?_modify]
    rw [if_neg (by omega)]
theorem some_setCells (b : Nat) (vs : List Value) (o : Nat) (w : World) (h : ∀ j, j < vs.length → (w.cell? ⟨b, o + j, none⟩).isSome = true) (k : Nat) (hk : (w.cell? ⟨b, k, none⟩).isSome = true) : ((w.setCells b o vs).cell? ⟨b, k, none⟩).isSome = true := by
  by_cases hin : o ≤ k ∧ k < o + vs.length
  · have := World.cell?_setCells_in b vs o w h (k - o) (by omega)
    rw [show o + (k - o) = k by omega] at this
    rw [this]; rfl
  · rw [World.cell?_setCells_out b vs o w ⟨b, k, none⟩ (fun _ _ => by show k < o ∨ o + vs.length ≤ k; omega)]
    exact hk
/-- The cells behind an insertion. -/
theorem mid_cells {W : World} {g k : Nat} {cs : List Value} {v : Value} (hk : k ≤ cs.length) (hs : ∀ j, j < cs.length + 1 → (W.cell? ⟨g, j, none⟩).isSome = true) (hp : ∀ j u, j < k → cs[j]? = some u → W.cell? ⟨g, j, none⟩ = some u) :
    ∀ j u, (cs.take k ++ v :: cs.drop k)[j]? = some u → ((W.setCells g (k + 1) (cs.drop k)).setCells g k [v]).cell? ⟨g, j, none⟩ = some u := by
  intro j u hu
  have htl : (cs.take k).length = k := by rw [List.length_take]; omega
  have hdl : (cs.drop k).length = cs.length - k := by rw [List.length_drop]
  have hs1 : ∀ j, j < (cs.drop k).length → (W.cell? ⟨g, (k + 1) + j, none⟩).isSome = true := fun j hj => hs _ (by omega)
  rcases Nat.lt_trichotomy j k with h | h | h
  · rw [List.getElem?_append_left (by omega), List.getElem?_take, if_pos h] at hu
    rw [World.cell?_setCells_out _ _ _ _ _ (fun _ _ => .inl h), World.cell?_setCells_out _ _ _ _ _ (fun _ _ => .inl (by show j < k + 1; omega))]
    exact hp j u h hu
  · subst h
    rw [List.getElem?_append_right (by omega), htl, Nat.sub_self, List.getElem?_cons_zero] at hu
    have := World.cell?_setCells_in g [v] j (W.setCells g (j + 1) (cs.drop j)) (fun i hi => some_setCells _ _ _ _ hs1 _ (hs _ (by simp at hi; omega))) 0 (by simp)
    exact Eq.trans this hu
  · rw [List.getElem?_append_right (by omega), htl, show j - k = (j - k - 1) + 1 by omega, List.getElem?_cons_succ] at hu
    rw [World.cell?_setCells_out _ _ _ _ _ (fun _ _ => .inr (by show k + [v].length ≤ j; simp; omega))]
    have hlt := (List.getElem?_eq_some_iff.1 hu).1
    have := World.cell?_setCells_in g (cs.drop k) (k + 1) W hs1 (j - k - 1) hlt
    rw [show k + 1 + (j - k - 1) = j by omega] at this
    rw [this]
    exact (List.getElem?_eq_getElem hlt).symm.trans hu
theorem mid_cells' {W : World} {g k : Nat} {cs : List Value} {v : Value} (hk : k ≤ cs.length) (hs : ∀ j, j < cs.length + 1 → (W.cell? ⟨g, j, none⟩).isSome = true) (hp : ∀ j u, j < k → cs[j]? = some u → W.cell? ⟨g, j, none⟩ = some u) :
    ∀ j u, (cs.take k ++ v :: cs.drop k)[j]? = some u → (((W.setCells g k [v]).drew).setCells g (k + 1) (cs.drop k)).cell? ⟨g, j, none⟩ = some u := by
  intro j u hu
  have htl : (cs.take k).length = k := by rw [List.length_take]; omega
  have hdl : (cs.drop k).length = cs.length - k := by rw [List.length_drop]
  have hs0 : ∀ i, i < [v].length → (W.cell? ⟨g, k + i, none⟩).isSome = true := fun i hi => hs _ (by simp at hi; omega)
  have hs1 : ∀ j, j < (cs.drop k).length → (((W.setCells g k [v]).drew).cell? ⟨g, (k + 1) + j, none⟩).isSome = true := fun j hj => some_setCells _ _ _ W hs0 _ (hs _ (by omega))
  rcases Nat.lt_trichotomy j k with h | h | h
  · rw [List.getElem?_append_left (by omega), List.getElem?_take, if_pos h] at hu
    rw [World.cell?_setCells_out _ _ _ _ _ (fun _ _ => .inl (by show j < k + 1; omega))]
    show (W.setCells g k [v]).cell? _ = _
    rw [World.cell?_setCells_out _ _ _ _ _ (fun _ _ => .inl h)]
    exact hp j u h hu
  · subst h
    rw [List.getElem?_append_right (by omega), htl, Nat.sub_self, List.getElem?_cons_zero] at hu
    rw [World.cell?_setCells_out _ _ _ _ _ (fun _ _ => .inl (by show j < j + 1; omega))]
    have := World.cell?_setCells_in g [v] j W hs0 0 (by simp)
    rw [Nat.add_zero] at this
    exact this.trans hu
  · rw [List.getElem?_append_right (by omega), htl, show j - k = (j - k - 1) + 1 by omega, List.getElem?_cons_succ] at hu
    have hlt := (List.getElem?_eq_some_iff.1 hu).1
    have := World.cell?_setCells_in g (cs.drop k) (k + 1) _ hs1 (j - k - 1) hlt
    rw [show k + 1 + (j - k - 1) = j by omega] at this
    rw [this]
    exact (List.getElem?_eq_getElem hlt).symm.trans hu
theorem map_ins (l : List Int) (k : Nat) (x : Int) : (l.take k ++ [x] ++ l.drop k).map (Value.int .i64) = (l.map (Value.int .i64)).take k ++ Value.int .i64 x :: (l.map (Value.int .i64)).drop k := by
  rw [List.append_assoc, List.map_append, List.map_append, List.map_take, List.map_drop]; rfl
theorem ins_len (l : List Int) {k : Nat} (h : k ≤ l.length) (x : Int) : (l.take k ++ [x] ++ l.drop k).length = l.length + 1 := by simp; omega
theorem ints_mk {w : World} {g n c : Nat} {l : List Int} (hl : l.length = n) (hn : n ≤ c) (hc : c ≤ maxLen) (h : ∀ j u, (l.map (Value.int .i64))[j]? = some u → w.cell? ⟨g, j, none⟩ = some u) : Ints w (some ⟨g, 0, none⟩) n c l :=
  ⟨by simpa using hl, hn, hc, fun _ => ⟨_, rfl, fun j u hu => by rw [Addr.add_lit, Nat.zero_add]; exact h j u hu⟩⟩

set_option maxHeartbeats 1000000 in
theorem ins_ok {A : Option Addr} {n c : Nat} {l : List Int} {w : World} {base k vb : Nat} {x : Int} (hl : OwnI w base A n c l) (hbase : base ≤ w.heap.size) (hA : A = none → c = 0) (hk : k ≤ n) (hb : (n + 1) * 8 ≤ 140737488355328)
    (hv : w.heap[vb]? = some (.cells #[.int .i64 x] 3 (0, 0))) (hne : (Value.slice A n c).ownBlock ≠ some vb) :
    Calls Try.prog 30 #[.slice A n c, .int .i64 k, .slice (some ⟨vb, 0, none⟩) 1 1] w fun e w' => ∃ (B : Addr) (d : Nat), e = .returned (.slice (some B) (n + 1) d) ∧ Ints w' (some B) (n + 1) d (l.take k ++ [x] ++ l.drop k) ∧ Below base w w' := by
  have hlen : l.length = n := hl.ints.len
  have hnc := hl.ints.ncap
  have hcm := hl.ints.nmax
  have hm9 : c ≤ 9223372036854775807 := by unfold maxLen at hcm; omega
  have hn9 : n + 1 ≤ maxLen := by unfold maxLen; omega
  have hvs : ∀ j v, [Value.int .i64 x][j]? = some v → w.cell? ⟨vb, 0 + j, none⟩ = some v := fun j v hj => by
    rcases j with _ | j
    · simp only [World.cell?, hv]; simpa using hj
    · simp at hj
  have h1v : ∀ v ∈ [Value.int .i64 x], v.oneCell' = true := fun v hv => by rw [List.mem_singleton.1 hv]; rfl
  have hcl : (l.map (Value.int .i64)).length = n := by simpa using hlen
  have h1c : ∀ v ∈ l.map (Value.int .i64), v.oneCell' = true := ints_oneCell _ _
  have hgc : c < n + 1 → n + 1 ≤ grownCap w (n + 1) c 3 ∧ grownCap w (n + 1) c 3 ≤ maxLen := fun _ => ⟨grownCap_ge _ _ _ _, grownCap_le_maxLen _ _ _ _ hn9⟩
  have hL := ins_len l (k := k) (by omega) x
  rw [hlen] at hL
  by_cases hkn : k = n
  · subst hkn
    by_cases hroom : k + 1 ≤ c
    · obtain ⟨_, h2⟩ := hl
      rcases h2 with ⟨hv', h0⟩ | ⟨g, cap, cur, hv', hgb, hg, hn, hcap, hcur, htake⟩
      · injection hv' with e1 _ e3; omega
      · injection hv' with e1 _ e3
        subst e1; subst e3
        have hcell : ∀ j, w.cell? ⟨g, j, none⟩ = cur[j]? := fun j => by simp [World.cell?, hg]
        have hsz : cur.size = c := by omega
        refine (Any2.slices_Insert_int_end_room layI g 0 k c vb 0 1 1 [.int .i64 x] w (by omega) hroom hm9 rfl (fun j hj => by rw [hcell]; simp; omega) (fun j hj => by simp [World.frozen?, hg]) hvs h1v).mono ?_
        rintro e w' ⟨rfl, rfl⟩
        refine ⟨_, _, rfl, ints_mk hL hroom hcm ?_, below_setCells _ _ (Below.refl _ _) hgb⟩
        rw [map_ins, Nat.zero_add]
        have h := mid_cells (W := w) (g := g) (k := k) (cs := l.map (Value.int .i64)) (v := .int .i64 x) (by omega) (fun j hj => by rw [hcell]; simp; omega) (fun j u hj hu => by
          rw [hcell, ← hu, ← htake, List.getElem?_take, if_pos (by omega)]; simp)
        have h0 : (l.map (Value.int .i64)).drop k = [] := List.drop_eq_nil_of_le (by omega)
        rw [h0] at h ⊢
        exact h
    · refine (Any2.slices_Insert_int_end_grow layI A k c vb 0 1 1 (l.map (Value.int .i64)) [.int .i64 x] w (by omega) hnc (by omega) hb hcl rfl (fun h => by have := hA h; omega) (fun a ha j v hj => ?_) hvs h1v).mono ?_
      · obtain ⟨ad, e, hc⟩ := hl.ints.2.2.2 (by have := (List.getElem?_eq_some_iff.1 hj).1; omega)
        rw [e] at ha; injection ha with ha; subst ha
        exact hc j v hj
      · rintro e w' ⟨rfl, rfl⟩
        obtain ⟨g1, g2⟩ := hgc (by omega)
        refine ⟨_, _, rfl, ints_mk hL g1 g2 ?_, ((Below.refl _ _).drew).alloc hbase _⟩
        rw [map_ins]
        have h0 : (l.map (Value.int .i64)).drop k = [] := List.drop_eq_nil_of_le (by omega)
        have h1 : (l.map (Value.int .i64)).take k = l.map (Value.int .i64) := List.take_of_length_le (by omega)
        rw [h0, h1]
        intro j u hu
        have hj := (List.getElem?_eq_some_iff.1 hu).1
        have := heap_alloc_new w.drew (.cells ((l.map (Value.int .i64) ++ [Value.int .i64 x]).toArray ++ Builtin.zeroCells (Value.int .i64 0).cells (grownCap w (k + 1) c 3 - (k + 1))) 3)
        have h9 : w.drew.heap.size = w.heap.size := rfl
        rw [h9] at this
        show World.cell? _ _ = _
        simp only [World.cell?]
        erw [this]
        simp only [Option.isSome_none, Bool.false_eq_true, if_false]
        rw [Array.getElem?_append_left (by simpa using hj)]
        simpa using hu
  · have hlt : k < n := by omega
    obtain ⟨_, h2⟩ := hl
    rcases h2 with ⟨hv', h0⟩ | ⟨g, cap, cur, hv', hgb, hg, hn, hcap, hcur, htake⟩
    · omega
    · injection hv' with e1 _ e3
      subst e1; subst e3
      have hcell : ∀ j, w.cell? ⟨g, j, none⟩ = cur[j]? := fun j => by simp [World.cell?, hg]
      have hsz : cur.size = c := by omega
      have hne' : vb ≠ g := fun h => hne (by rw [h]; rfl)
      have hpre : ∀ j u, j < n → (l.map (Value.int .i64))[j]? = some u → w.cell? ⟨g, j, none⟩ = some u := fun j u hj hu => by
        rw [hcell, ← hu, ← htake, List.getElem?_take, if_pos (by omega)]; simp
      have hcs : ∀ j v, (l.map (Value.int .i64))[j]? = some v → w.cell? ⟨g, 0 + j, none⟩ = some v := fun j v hj => by
        rw [Nat.zero_add]; exact hpre j v (by have := (List.getElem?_eq_some_iff.1 hj).1; omega) hj
      by_cases hroom : n + 1 ≤ c
      · refine (Any2.slices_Insert_int_shift layI g 0 n c k vb 0 1 1 (l.map (Value.int .i64)) [.int .i64 x] w hlt (by omega) hroom hm9 hne' hcl rfl hcs (fun j hj => by rw [hcell]; simp; omega) (fun j hj => by simp [World.frozen?, hg]) hvs h1c h1v 3 3 1 c (by simp [World.shape?, hv]) (by simp [World.shape?, hg, hsz]) (by omega) (by simp [World.frozen?, hv]) (by simp [World.frozen?, hv])).mono ?_
        rintro e w' ⟨rfl, rfl⟩
        refine ⟨_, _, rfl, ints_mk hL hroom hcm ?_, below_setCells _ _ (below_setCells _ _ ((Below.refl _ _).drew) hgb) hgb⟩
        rw [map_ins, Nat.zero_add, Nat.zero_add]
        exact mid_cells (W := w.drew) (by omega) (fun j hj => by show (w.cell? _).isSome = true; rw [hcell]; simp; omega) (fun j u hj hu => hpre j u (by omega) hu)
      · refine (Any2.slices_Insert_int_grow layI g 0 n c k vb 0 1 1 (l.map (Value.int .i64)) [.int .i64 x] w hlt (by omega) hnc (by omega) hb hcl rfl hcs hvs h1c h1v).mono ?_
        rintro e w' ⟨rfl, rfl⟩
        obtain ⟨g1, g2⟩ := hgc (by omega)
        refine ⟨_, _, rfl, ints_mk hL g1 g2 ?_, below_setCells _ _ ((below_setCells _ _ (((Below.refl _ _).alloc hbase _).drew) hbase).drew) hbase⟩
        rw [map_ins]
        have h1 := heap_alloc_new w (.cells (((l.map (Value.int .i64)).take k).toArray ++ Builtin.zeroCells (Value.int .i64 0).cells (n + 1 - k) ++ Builtin.zeroCells (Value.int .i64 0).cells (grownCap w (n + 1) c 3 - (n + 1))) 3)
        refine mid_cells' (W := (w.alloc _).drew) (by omega) (fun j hj => ?_) (fun j u hj hu => ?_)
        · show (World.cell? (w.alloc _) _).isSome = true
          simp only [World.cell?]
          erw [h1]
          simp only [Option.isSome_none, Bool.false_eq_true, if_false]
          simp [Builtin.zeroCells, Value.cells]
          omega
        · show World.cell? (w.alloc _) _ = _
          simp only [World.cell?]
          erw [h1]
          simp only [Option.isSome_none, Bool.false_eq_true, if_false]
          rw [Array.getElem?_append_left (by simp; omega), Array.getElem?_append_left (by simp; omega)]
          simp only [List.getElem?_toArray, List.getElem?_take, if_pos hj]
          exact hu

set_option maxHeartbeats 1000000 in
theorem del_ok {A : Option Addr} {n c : Nat} {l : List Int} {w : World} {base k : Nat} (hl : OwnI w base A n c l) (hk : k < n) :
    Calls Try.prog 31 #[.slice A n c, .int .i64 k, .int .i64 ((k : Int) + 1)] w fun e w' => ∃ (B : Addr) (d : Nat), e = .returned (.slice (some B) (n - 1) d) ∧ Ints w' (some B) (n - 1) d (l.take k ++ l.drop (k + 1)) ∧ Below base w w' := by
  have hlen : l.length = n := hl.ints.len
  have hnc := hl.ints.ncap
  have hcm := hl.ints.nmax
  have hm9 : c ≤ 9223372036854775807 := by unfold maxLen at hcm; omega
  obtain ⟨_, h2⟩ := hl
  rcases h2 with ⟨hv', h0⟩ | ⟨g, cap, cur, hv', hgb, hg, hn, hcap, hcur, htake⟩
  · omega
  · injection hv' with e1 _ e3
    subst e1; subst e3
    have hcell : ∀ j, w.cell? ⟨g, j, none⟩ = cur[j]? := fun j => by simp [World.cell?, hg]
    have hH : Holds (Value.int .i64) w g 0 l.toArray := fun j hj => by
      have hj' : j < l.length := by simpa using hj
      refine ⟨?_, by simp [World.frozen?, hg]⟩
      rw [hcell, Nat.zero_add]
      have h3 : (l.map (Value.int .i64))[j]? = some (Value.int .i64 l[j]) := by simp [hj']
      rw [← htake, List.getElem?_take, if_pos (by omega)] at h3
      rw [getElem!_pos l.toArray j hj]
      simpa using h3
    have h := Any.slices_Delete_int layD g 0 c k (k + 1) l w hH (by omega) hm9 (by omega) (by omega)
    rw [hlen] at h
    refine h.mono ?_
    rintro e w' ⟨rfl, q, rfl⟩
    refine ⟨⟨g, 0, none⟩, c, by rw [show n - (k + 1 - k) = n - 1 by omega], ints_mk (by simp; omega) (by omega) hcm ?_, below_putRow hgb⟩
    intro j u hu
    have hj := (List.getElem?_eq_some_iff.1 hu).1
    simp at hj
    have hz : (l.take k ++ l.drop (k + 1) ++ List.replicate (k + 1 - k) 0).toArray.size = l.toArray.size := by simp; omega
    have h4 := (holds_putRow (Value.int .i64) (Sort.ahead w q) g 0 l.toArray _ (holds_ahead (Value.int .i64) w q g 0 l.toArray hH) hz) j (by rw [hz]; simp; omega)
    rw [Nat.zero_add] at h4
    rw [h4.1, ← hu]
    rw [getElem!_pos _ j (by rw [hz]; simp; omega)]
    have h5 : j < (l.take k ++ l.drop (k + 1)).length := by simp; omega
    simp only [List.getElem_toArray]
    rw [List.getElem_append_left h5, List.getElem?_map, List.getElem?_eq_getElem h5]
    rfl
end Go.Proofs.Ythphlghblmindaa
