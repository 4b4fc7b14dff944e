/-
  within: the tree is walked; what is near enough is put behind a row.
-/
import Derived.Test.YtdkjkcegchohfaaNbP
import Derived.Deep.DeepCutAuto
import Derived.Deep.CutRange
import Derived.Deep.CutBlock
import Derived.Deep.Light
namespace Go.Proofs.Ytdkjkcegchohfaa
open Go.RowKit
set_option linter.unusedVariables false
set_option linter.unusedSimpArgs false
attribute [local go_sem] Oper.semAt_some

def nearC (L : List (Nat × Nat)) : List Value := L.flatMap fun p => [.int .i64 p.1, .int .i64 p.2]
theorem nearC_len (L : List (Nat × Nat)) : (nearC L).length = L.length * 2 := by
  induction L with
  | nil => rfl
  | cons a l ih => unfold nearC at ih ⊢; rw [List.flatMap_cons, List.length_append, ih]; simp; omega
theorem nearC_app (L M : List (Nat × Nat)) : nearC (L ++ M) = nearC L ++ nearC M := by simp [nearC]
/-- A row of the call's own, of such pairs. -/
def OwnN (w : World) (base : Nat) (A : Option Addr) (n c : Nat) (L : List (Nat × Nat)) : Prop := Own w base 53 2 A n c (nearC L)
theorem OwnN.len {w : World} {base n c : Nat} {A : Option Addr} {L : List (Nat × Nat)} (h : OwnN w base A n c L) : L.length = n := by
  have := Own.len h
  rw [nearC_len] at this
  omega
theorem info_near : (Try.prog.info? 53).map (fun i => (i.zero, i.size, i.bytes)) = some (some (.agg #[.int .i64 0, .int .i64 0]), 2, 16) := by kernel_rfl

theorem nodup_le : ∀ (N : Nat) {l : List Nat}, l.Nodup → (∀ x ∈ l, x < N) → l.length ≤ N
  | 0, l, _, h => by
    cases l with
    | nil => exact Nat.le_refl _
    | cons a l => exact absurd (h a (by simp)) (by omega)
  | N + 1, l, hn, h => by
    by_cases hm : N ∈ l
    · have h1 := nodup_le N (hn.erase N) (fun x hx => by
        have h2 := (hn.mem_erase_iff.1 hx)
        have := h x h2.2
        have := h2.1
        omega)
      rw [List.length_erase_of_mem hm] at h1
      omega
    · have := nodup_le N hn (fun x hx => by
        have := h x hx
        have : x ≠ N := fun e => hm (e ▸ hx)
        omega)
      omega
theorem hits_len {t : BK} {q : List Int} {most N : Nat} {S : Nat → Prop} {L : List (Nat × Nat)} (h : HitsB t q most S L) (hS : ∀ x, S x → x < N) : L.length ≤ N := by
  have h1 := nodup_le N h.1 (fun x hx => by
    obtain ⟨⟨_, d⟩, hm, rfl⟩ := List.mem_map.1 hx
    exact hS _ ((h.2 _ _).1 hm).1)
  simpa using h1

theorem grows_ext {w w' : World} (h : Ext w w') (row : Option Nat) : w.grownBy w' row := ⟨Below.os h, Below.tape h, Below.output h, h.hsize, fun k hk _ => Below.block h k hk⟩
/-- A row of the call's own lies in cells. -/
theorem own_cells {w : World} {base e z n c : Nat} {A : Option Addr} {xs : List Value} (h : Own w base e z A n c xs) {g : Nat} (hg : (Value.slice A n c).ownBlock = some g) : ∃ cs t fr, w.heap[g]? = some (.cells cs t fr) := by
  rcases h.2 with ⟨hv, _⟩ | ⟨g', cap, cur, hv, _, hb, _⟩
  · rw [hv] at hg; simp [Value.ownBlock] at hg
  · rw [hv] at hg
    simp [Value.ownBlock] at hg
    subst hg
    exact ⟨_, _, _, hb⟩
theorem RangesO.iter {w : World} {b r n : Nat} {f : Int → Option Value} {left : Lit → Bool} {cnt : Nat} (h : RangesO w b r n f left cnt) : ∃ since seen c0, w.heap[r]? = some (.mapIter (some b) since seen c0) := by
  obtain ⟨D, ⟨es, clock, since, seen, c0, e1, F, hs, hD, e2, rest⟩, h2⟩ := h
  exact ⟨since, seen, c0, e2⟩
/-- A loop over a map stays while a row of the call's own grows. -/
theorem RangesO.own {w w' : World} {b r n : Nat} {f : Int → Option Value} {left : Lit → Bool} {cnt : Nat} (h : RangesO w b r n f left cnt) {base e z k c : Nat} {A : Option Addr} {xs : List Value} (ho : Own w base e z A k c xs)
    (hg : w.grownBy w' (Value.slice A k c).ownBlock) : RangesO w' b r n f left cnt := by
  obtain ⟨since, seen, c0, hi⟩ := h.iter
  obtain ⟨es, clock, hb⟩ := h.map.block
  refine h.at (hg.block b h.map.lt fun e => ?_) (hg.block r h.lt fun e => ?_)
  · obtain ⟨cs, t, fr, hc⟩ := own_cells ho e.symm
    rw [hb] at hc; cases hc
  · obtain ⟨cs, t, fr, hc⟩ := own_cells ho e.symm
    rw [hi] at hc; cases hc

/-- What within gives. -/
def GivesN (w0 w : World) (row : Option Nat) (t : BK) (q : List Int) (most : Nat) (S : Nat → Prop) (v : Value) (w' : World) : Prop :=
  ∃ A n c L, v = .slice A n c ∧ OwnN w' w0.heap.size A n c L ∧ HitsB t q most S L ∧ w.grownBy w' row ∧ (∀ j, (Value.slice A n c).ownBlock = some j → w.heap.size ≤ j ∨ row = some j)

theorem kid_of {t : BK} {ns : Nat → BkN} {i : Nat} {x : Int} {v : Value} (h : kidF t ns i x = some v) : ∃ j, t.kid i x = some j ∧ v = .pointer (some ⟨(ns j).a, 0, none⟩) := by
  unfold kidF at h
  cases hk : t.kid i x with
  | none => rw [hk] at h; cases h
  | some j => rw [hk] at h; injection h with h; exact ⟨j, rfl, h.symm⟩
theorem kid_dist {w : World} {b0 : Nat} {t : BK} {ns : Nat → BkN} (ho : t.Ok) (hb : BkIs w b0 t ns) {i j : Nat} (hi : i < t.ws.length) {x : Int} (h : t.kid i x = some j) : ∃ k : Nat, x = k ∧ k ≤ 24 := by
  have e := ho.far _ _ _ _ h (.refl _)
  have hu := ho.up _ _ _ h
  have h1 := hb.len j hu.2
  have h2 := (hb.node j hu.2).2.2.1.len
  have h3 := hb.len i hi
  have h4 := (hb.node i hi).2.2.1.len
  exact ⟨_, e, dist_le (by omega) (by omega)⟩

theorem key_same (d k : Int) : (Lit.int .i64 d).sameKey (.int .i64 k) = decide (d = k) := by
  by_cases h : d = k
  · subst h
    rw [WideAt.sameKey_self (show WideAt.IsKeyLit (.int .i64 d) from trivial)]; simp
  · rw [Maps.sameKey_ne (fun e => h (by injection e))]; simp [h]
theorem RangesO.now {w : World} {b r n : Nat} {f : Int → Option Value} {left : Lit → Bool} {cnt : Nat} (h : RangesO w b r n f left cnt) : RangesO w b r n f left (w.rangeLeft b r) := by
  rw [h.left_eq]; exact h

set_option maxRecDepth 20000 in
set_option maxHeartbeats 1000000 in
theorem within_ok : ∀ (f : Nat) {t : BK} {ns : Nat → BkN} {i m d n c most b0 : Nat} {Q A : Option Addr} {q : List Int} {L : List (Nat × Nat)} {S : Nat → Prop} {w0 w : World}, t.ws.length - i ≤ f → i < t.ws.length → t.Ok → BkIs w0 b0 t ns → Ints w0 Q m d q → m ≤ 200 → most ≤ 200 →
    Ext w0 w → OwnN w w0.heap.size A n c L → HitsB t q most S L → (∀ x, S x → x < t.ws.length) → (∀ x, S x → Und t i x → False) →
    Calls Try.prog 47 #[(ns i).ptr, .slice Q m d, .int .i64 most, .slice A n c] w fun e w' => ∃ v, e = .returned v ∧ GivesN w0 w (Value.slice A n c).ownBlock t q most (fun x => S x ∨ Und t i x) v w'
  | 0, t, ns, i, m, d, n, c, most, b0, Q, A, q, L, S, w0, w, hf, hi, ho, hb, hq, hm, hmost, he, hO, hL, hS, hd => absurd hi (by omega)
  | f + 1, t, ns, i, m, d, n, c, most, b0, Q, A, q, L, S, w0, w, hf, hi, ho, hb, hq, hm, hmost, he, hO, hL, hS, hd => by
    obtain ⟨i0, hi0, hz0, hz1, hz2⟩ := info_parts info_near
    obtain ⟨n0, n1, n2, n3⟩ := hb.node i hi
    have c0 : w.cell? ⟨(ns i).a, 0, none⟩ = some (.slice (ns i).A (ns i).n (ns i).c) := by rw [(n1.ext he).cell 0]; rfl
    have hil := hb.len i hi
    have hdm : dist (t.W i) q ≤ 200 := dist_le (by rw [n2.len]; omega) (by rw [hq.len]; exact hm)
    have HB := Lib.hid hb
    have HQ := Lib.hid hq
    have HO := Lib.hid ho
    have HF := Lib.hid hf
    have HL := Lib.hid hL
    have HS := Lib.hid hS
    have HD := Lib.hid hd
    have HN := Lib.hid n1
    have hnN : n ≤ 100 := by have := hits_len hL hS; rw [hO.len] at this; have := hb.max; omega
    have hN := hb.max
    obtain ⟨dd, hdd⟩ : ∃ dd, dd = dist (t.W i) q := ⟨_, rfl⟩
    clear hf ho hb hL hS hd
    unfold BkN.ptr
    go_enter Try.func47, Try.ntmps47
    go_wp2_with fail
    refine (nearFar_ok (n2.ext he) (hq.ext he) (by omega) hm).mono ?_
    rintro e w1 ⟨rfl, he1⟩
    have c1 : w1.cell? ⟨(ns i).a, 1, none⟩ = some (.int .i64 i) := by rw [(HN.out.ext (he.trans he1)).cell 1]; rfl
    have hO1 := Own.ext hO he1
    have HG1 := Lib.hid (grows_ext he1 (Value.slice A n c).ownBlock)
    have hsz1 := he1.hsize
    have hxx := he.trans he1
    have HDD := Lib.hid hdd
    rw [← hdd]
    clear hO he1 c0 hdd
    go_upto_if 24 with fail
    go_cut [3] (fun ov wx => ∃ A2 n2 c2 L2, ov = .slice A2 n2 c2 ∧ Hid (OwnN wx w0.heap.size A2 n2 c2 L2 ∧ HitsB t q most (fun x => S x ∨ x = i) L2 ∧ w.grownBy wx (Value.slice A n c).ownBlock ∧ (∀ j, (Value.slice A2 n2 c2).ownBlock = some j → w.heap.size ≤ j ∨ (Value.slice A n c).ownBlock = some j) ∧ Ext w0 wx))
    case first =>
      by_cases hle : dd ≤ most
      · have HH : Hid (HitsB t q most (fun x => S x ∨ x = i) (L ++ [(i, dd)])) := Lib.hid (by
          rw [HDD.out]
          exact HL.out.app (HitsB.one (by rw [← HDD.out]; exact hle)) (fun x h1 h2 => by subst h2; exact HD.out _ h1 (.refl _)) (fun x => Iff.rfl))
        go_wp2_with (at_builtin; refine wpList_push rfl (.tmp 25) (.tmp 32) 48 rfl w0 w0.heap.size 53 i0 _ 2 16 Try.underlying48 hi0 hz0 hz1 hz2 rfl (by decide) A n c _ rfl hO1 #[.int .i64 i, .int .i64 dd] rfl (by simp [Value.oneCell']) rfl (by unfold maxLen; omega) (by omega) hxx (Nat.le_refl _) hxx.hsize ?_; intro A2 d2 w2 k1 k2 k3 k4)
        go_meet
        refine ⟨A2, n + 1, d2, L ++ [(i, dd)], rfl, Lib.hid ⟨by unfold OwnN; rw [nearC_app]; exact k1, HH.out, HG1.out.andThen k2 (fun j hj => .inr hj), fun j hj => ?_, k4⟩⟩
        rcases k3 with k3 | ⟨g, hg, k3⟩
        · exact .inr (by rw [← k3]; exact hj)
        · rw [k3] at hj; injection hj with hj; exact .inl (by omega)
      · have HH : Hid (HitsB t q most (fun x => S x ∨ x = i) L) := Lib.hid (by
          have h2 : HitsB t q most (fun x => x = i) [] := HitsB.none (fun x hx => by subst hx; rw [← HDD.out]; omega)
          have := HL.out.app (S := fun x => S x ∨ x = i) h2 (fun x h1 h2 => by subst h2; exact HD.out _ h1 (.refl _)) (fun x => Iff.rfl)
          simpa using this)
        go_wp2_with fail
        go_meet
        exact ⟨A, n, c, L, rfl, Lib.hid ⟨hO1, HH.out, HG1.out, fun j hj => .inr hj, hxx⟩⟩
    case rest =>
      obtain ⟨A2, n2', d2, L2, rfl, HC⟩ := hcut
      have hE := HC.out.2.2.2.2
      have c2 : wc.cell? ⟨(ns i).a, 2, none⟩ = some (.map (some (ns i).m)) := by rw [(HN.out.ext hE).cell 2]; rfl
      have m1 : MapO wc (ns i).m t.ws.length (kidF t ns i) := n3.ext hE
      clear c1 hO1 hsz1 hxx
      go_wp2_with (at_range; refine wpList_range_o _ rfl _ _ _ rfl Try.underlying84 rfl m1 ?_; intro w3 left0 R3 hleft0 hg3 hs3)
      go_frame
      have HL0 := Lib.hid hleft0
      clear hleft0
      go_loopw [3] (fun ov wr => ∃ A' n' c' L' left, ov = .slice A' n' c' ∧ OwnN wr w0.heap.size A' n' c' L' ∧ Hid (HitsB t q most (fun x => S x ∨ SeenB t i (fun d => left (.int .i64 d)) x) L') ∧ RangesO wr (ns i).m wc.heap.size t.ws.length (kidF t ns i) left (wr.rangeLeft (ns i).m wc.heap.size) ∧ w.grownBy wr (Value.slice A n c).ownBlock ∧
        Hid (∀ j, (Value.slice A' n' c').ownBlock = some j → w.heap.size ≤ j ∨ (Value.slice A n c).ownBlock = some j) ∧ Ext w0 wr) (fun _ wr => wr.rangeLeft (ns i).m wc.heap.size)
      case atStart =>
        have hkw : ∀ d j, t.kid i d = some j → (Lit.int .i64 d).wf = true := fun d j hk => by
          have e := HO.out.far _ _ _ _ hk (.refl _)
          have hu := HO.out.up _ _ _ hk
          have h1 := HB.out.len j hu.2
          have h2 := (HB.out.node j hu.2).2.2.1.len
          have h3 : dist (t.W i) (t.W j) ≤ 200 := dist_le (by rw [n2.len]; omega) (by omega)
          exact wf_i64' (by omega) (by omega)
        refine ⟨A2, n2', d2, L2, left0, rfl, Own.ext HC.out.1 ?_, Lib.hid ?_, R3, HC.out.2.2.1.andThen hg3 (fun j hj => by cases hj), Lib.hid HC.out.2.2.2.1, hE.trans ?_⟩
        · exact Below.grown (Ext.refl wc) hg3 (Nat.le_refl _) (fun j hj => by cases hj)
        · refine HC.out.2.1.congr (fun x => ?_)
          rw [seen_start (fun d j hk => by
            show left0 (.int .i64 d) = true
            rw [HL0.out d (hkw d j hk)]
            unfold kidF; rw [hk]; rfl)]
        · exact Below.grown (Ext.refl wc) hg3 (Nat.le_refl _) (fun j hj => by cases hj)
      case round =>
        obtain ⟨A', n', c', L', left, rfl, kO, kH, kR, kG, kB, kE⟩ := hrel
        go_upto_region 7 with (at_next; refine wpList_next_o _ rfl _ rfl rfl kR ?_ ?_; intro hz0 hl0; rotate_left; intro x v w5 cnt5 hwx hlx hfx hR5 hlt5 hg5 hs5 hen; obtain ⟨j, hkj, rfl⟩ := kid_of hfx; obtain ⟨k, rfl, hk24⟩ := kid_dist HO.out HB.out hi hkj; rotate_left)
        · go_ret
          refine ⟨_, rfl, A', n', c', L', rfl, kO, kH.out.congr (fun x => ?_), kG, kB.out⟩
          rw [seen_end (fun d j _ => hl0 _)]
        · have hne : (Value.slice A' n' c').ownBlock = none ∨ (Value.slice A' n' c').ownBlock ≠ some wc.heap.size := by
            refine .inr (fun e => ?_)
            obtain ⟨cs, ty, fr, hc⟩ := own_cells kO e
            obtain ⟨a1, a2, a3, hc'⟩ := kR.iter
            rw [hc] at hc'; cases hc'
          have hO5 : OwnN w5 w0.heap.size A' n' c' L' := Own.kept kO hg5 hne
          have hszc : w.heap.size ≤ wc.heap.size := HC.out.2.2.1.size
          have kE5 : Ext w0 w5 := Below.grown kE hg5 kE.hsize (fun j hj => by injection hj with hj; have := hE.hsize; omega)
          have G5 := Lib.hid (kG.andThen hg5 (fun j hj => .inl (by injection hj with hj; omega)))
          have hup := HO.out.up _ _ _ hkj
          have hd2 : dd ≤ 200 := by rw [HDD.out]; exact hdm
          have Hstep := Lib.hid (seen_step (left' := fun d => left (.int .i64 d) && !(Lit.int .i64 d).sameKey (.int .i64 k)) hkj hlx (fun d => by rw [key_same]))
          have Hap := Lib.hid (seen_apart (left := fun d => left (.int .i64 d)) HO.out hkj hlx)
          have HLX := Lib.hid hlx
          have HKJ := Lib.hid hkj
          have HX5 := Lib.hid hen
          clear hfx hlx hkj hen hne
          by_cases hc : (dd : Int) - most ≤ k ∧ (k : Int) ≤ dd + most
          · obtain ⟨hc1, hc2⟩ := hc
            go_wp2_with fail
            refine (within_ok f (i := j) (S := fun x => S x ∨ SeenB t i (fun d => left (.int .i64 d)) x) (by have := HF.out; omega) hup.2 HO.out HB.out HQ.out hm hmost kE5 hO5 kH.out ?_ ?_).mono ?_
            · rintro x (h | h | ⟨d, j', h1, _, h2⟩)
              · exact HS.out x h
              · omega
              · exact h2.lt HO.out (HO.out.up _ _ _ h1).2
            · rintro x (h | h) hu
              · exact HD.out x h (.step HKJ.out hu)
              · exact Hap.out x h hu
            · rintro e w6 ⟨v6, rfl, A6, n6, c6, L6, rfl, o6, h6, g6, b6⟩
              have hR6 := hR5.own hO5 g6
              have kE6 : Ext w0 w6 := Ext.grown kE5 g6 hO5 (Nat.le_refl _)
              go_wp2_with fail
              go_roundw
              case rel =>
                refine ⟨A6, n6, c6, L6, _, rfl, o6, Lib.hid (h6.congr (fun x => ?_)), hR6.now, G5.out.andThen g6 (fun j hj => kB.out j hj), Lib.hid (fun j hj => ?_), kE6⟩
                · rw [Hstep.out x, or_assoc]
                · rcases b6 j hj with h | h
                  · have := G5.out.size; exact .inl (by omega)
                  · exact kB.out j h
              case measure => rw [hR6.left_eq]; exact hlt5
          · have HK := Lib.hid (kid_far HO.out (q := q) (most := most) HKJ.out (by rw [← HDD.out]; omega))
            have hH : HitsB t q most (fun x => S x ∨ SeenB t i (fun d => left (.int .i64 d) && !(Lit.int .i64 d).sameKey (.int .i64 k)) x) L' := by
              have h1 := kH.out.app (S := fun x => S x ∨ SeenB t i (fun d => left (.int .i64 d) && !(Lit.int .i64 d).sameKey (.int .i64 k)) x) HK.out (fun x h hu => by
                rcases h with h | h
                · exact HD.out x h (.step HKJ.out hu)
                · exact Hap.out x h hu) (fun x => by rw [Hstep.out x, or_assoc])
              simpa using h1
            have HH := Lib.hid hH
            clear hH
            by_cases hc1 : (dd : Int) - most ≤ k
            · have hc2 : ¬ (k : Int) ≤ dd + most := fun h => hc ⟨hc1, h⟩
              clear hc
              go_wp2_with fail
              go_roundw
              case rel => exact ⟨A', n', c', L', _, rfl, hO5, HH, hR5.now, G5.out, kB, kE5⟩
              case measure => rw [hR5.left_eq]; exact hlt5
            · clear hc
              go_wp2_with fail
              go_roundw
              case rel => exact ⟨A', n', c', L', _, rfl, hO5, HH, hR5.now, G5.out, kB, kE5⟩
              case measure => rw [hR5.left_eq]; exact hlt5
end Go.Proofs.Ytdkjkcegchohfaa
