/-
  The walk of splice.Undo.
-/
import Derived.Test.YthphlghblmindaaSplA
import Derived.Test.YthphlghblmindaaClone
import Derived.Deep.RegionHeld3
namespace Go.Proofs.Ythphlghblmindaa
open Go.RowKit
set_option linter.unusedVariables false
set_option linter.unusedSimpArgs false

theorem info_splice : (Try.prog.info? 45).map (fun i => (i.zero, i.size, i.bytes)) = some (some (.agg #[.int .i64 0, .int .i64 0, .slice none 0 0]), 3, 40) := by kernel_rfl

/-- Splices of the call's own, whose texts lie in rows of the call's own, in no such block as the row's. -/
def EditsO (w : World) (base : Nat) (row : Option Nat) (xs : List Value) (e : List Spl) : Prop :=
  xs.length = e.length * 3 ∧ ∀ i, i < e.length → ∃ B m d, xs[i * 3]? = some (.int .i64 (gE e i).f) ∧ xs[i * 3 + 1]? = some (.int .i64 (gE e i).t) ∧ xs[i * 3 + 2]? = some (.slice B m d) ∧
    OwnI w base B m d (gE e i).x ∧ (B = none → d = 0) ∧ ((Value.slice B m d).ownBlock = none ∨ (Value.slice B m d).ownBlock ≠ row)
theorem EditsO.edits {w : World} {base : Nat} {row : Option Nat} {xs : List Value} {e : List Spl} (h : EditsO w base row xs e) : Edits w xs e :=
  ⟨h.1, fun i hi => let ⟨B, m, d, h1, h2, h3, h4, h5, _⟩ := h.2 i hi; ⟨B, m, d, h1, h2, h3, h4.ints, h5⟩⟩
theorem EditsO.ext {w w' : World} {base : Nat} {row : Option Nat} {xs : List Value} {e : List Spl} (h : EditsO w base row xs e) (he : Ext w w') : EditsO w' base row xs e :=
  ⟨h.1, fun i hi => let ⟨B, m, d, h1, h2, h3, h4, h5, h6⟩ := h.2 i hi; ⟨B, m, d, h1, h2, h3, h4.ext he, h5, h6⟩⟩
theorem EditsO.grown {w w' : World} {base : Nat} {row row' : Option Nat} {xs : List Value} {e : List Spl} (h : EditsO w base row xs e) (hg : w.grownBy w' row) (hr : row' = row ∨ ∃ g, w.heap.size ≤ g ∧ row' = some g) : EditsO w' base row' xs e :=
  ⟨h.1, fun i hi => by
    obtain ⟨B, m, d, h1, h2, h3, h4, h5, h6⟩ := h.2 i hi
    refine ⟨B, m, d, h1, h2, h3, Own.kept h4 hg h6, h5, ?_⟩
    rcases hr with rfl | ⟨g, hgs, rfl⟩
    · exact h6
    · cases hb : (Value.slice B m d).ownBlock with
      | none => exact .inl rfl
      | some g' =>
        have := (Own.blk h4 g' hb).2
        exact .inr (fun e => by injection e with e; omega)⟩
theorem EditsO.nil (w : World) (base : Nat) (row : Option Nat) : EditsO w base row [] [] := ⟨rfl, fun i hi => absurd hi (by simp)⟩
/-- An edit in rows of the call's own. -/
def EdOwn (w : World) (base : Nat) (v : Value) (e : List Spl) : Prop := ∃ O k c xs row, v = .slice O k c ∧ Own w base 45 3 O k c xs ∧ EditsO w base row xs e
theorem EdOwn.nil (w : World) (base : Nat) : EdOwn w base (.slice none 0 0) [] := ⟨none, 0, 0, [], none, rfl, World.ownsRow_nil _ _ _ _, EditsO.nil _ _ _⟩
theorem EdOwn.ext {w w' : World} {base : Nat} {v : Value} {e : List Spl} (h : EdOwn w base v e) (he : Ext w w') : EdOwn w' base v e :=
  let ⟨O, k, c, xs, row, h1, h2, h3⟩ := h; ⟨O, k, c, xs, row, h1, Own.ext h2 he, h3.ext he⟩
theorem EdOwn.at_ {w : World} {base : Nat} {v : Value} {e : List Spl} (h : EdOwn w base v e) : ∃ O k c, v = .slice O k c ∧ EditAt w O k c e :=
  let ⟨O, k, c, xs, row, h1, h2, h3⟩ := h; ⟨O, k, c, h1, xs, h2.rd, h3.edits⟩
theorem EdOwn.lower {w : World} {base base' : Nat} {v : Value} {e : List Spl} (h : EdOwn w base v e) (hb : base' ≤ base) : EdOwn w base' v e :=
  let ⟨O, k, c, xs, row, h1, h2, h3⟩ := h; ⟨O, k, c, xs, row, h1, Own.lower h2 hb, h3.1, fun i hi => let ⟨B, m, d, k1, k2, k3, k4, k5, k6⟩ := h3.2 i hi; ⟨B, m, d, k1, k2, k3, Own.lower k4 hb, k5, k6⟩⟩
/-- A block below has turned. -/
theorem EdOwn.kept {w w' : World} {base : Nat} {v : Value} {e : List Spl} (h : EdOwn w base v e) {g : Option Nat} (hg : w.grownBy w' g) (hb : ∀ k, g = some k → k < base) : EdOwn w' base v e := by
  obtain ⟨O, k, c, xs, row, h1, h2, h3⟩ := h
  have key : ∀ {e' z n' c' : Nat} {A : Option Addr} {ys : List Value}, Own w base e' z A n' c' ys → Own w' base e' z A n' c' ys := fun ho => Own.kept ho hg (by
    cases hq : (Value.slice _ _ _).ownBlock with
    | none => exact .inl rfl
    | some q => exact .inr (fun e => by have h4 := hb q e.symm; have h5 := (Own.blk ho q hq).1; omega))
  exact ⟨O, k, c, xs, row, h1, key h2, h3.1, fun i hi => let ⟨B, m, d, k1, k2, k3, k4, k5, k6⟩ := h3.2 i hi; ⟨B, m, d, k1, k2, k3, key k4, k5, k6⟩⟩
theorem gE_left {e : List Spl} {s : Spl} {i : Nat} (h : i < e.length) : gE (e ++ [s]) i = gE e i := by
  unfold gE; rw [List.getElem?_append_left h]
theorem gE_last {e : List Spl} {s : Spl} : gE (e ++ [s]) e.length = s := by
  unfold gE; simp
theorem EditsO.snoc {w : World} {base : Nat} {row : Option Nat} {xs : List Value} {e : List Spl} (h : EditsO w base row xs e) {s : Spl} {B : Option Addr} {m d : Nat} (ho : OwnI w base B m d s.x) (hn : B = none → d = 0)
    (hr : (Value.slice B m d).ownBlock = none ∨ (Value.slice B m d).ownBlock ≠ row) : EditsO w base row (xs ++ [.int .i64 s.f, .int .i64 s.t, .slice B m d]) (e ++ [s]) := by
  obtain ⟨h1, h2⟩ := h
  refine ⟨by simp; omega, fun i hi => ?_⟩
  rw [List.length_append] at hi
  rcases Nat.lt_or_ge i e.length with hlt | hge
  · obtain ⟨B', m', d', k1, k2, k3, k4, k5, k6⟩ := h2 i hlt
    rw [gE_left hlt]
    refine ⟨B', m', d', ?_, ?_, ?_, k4, k5, k6⟩
    · rw [List.getElem?_append_left (by omega)]; exact k1
    · rw [List.getElem?_append_left (by omega)]; exact k2
    · rw [List.getElem?_append_left (by omega)]; exact k3
  · obtain rfl : i = e.length := by simp at hi; omega
    rw [gE_last]
    refine ⟨B, m, d, ?_, ?_, ?_, ho, hn, hr⟩
    · rw [List.getElem?_append_right (by omega), h1, Nat.sub_self]; rfl
    · rw [List.getElem?_append_right (by omega), h1, show e.length * 3 + 1 - e.length * 3 = 1 by omega]; rfl
    · rw [List.getElem?_append_right (by omega), h1, show e.length * 3 + 2 - e.length * 3 = 2 by omega]; rfl

theorem good_len {n : Int} : ∀ {e : List Spl} {last : Int}, good n last e → last ≤ n → (e.length : Int) ≤ n - last
  | [], last, _, h => by simp only [List.length_nil]; omega
  | s :: e, last, ⟨g1, g2, g3, g4, g5, g6⟩, h => by
    have := good_len g6 g3
    simp only [List.length_cons]; omega
theorem cells3_ext {w w' : World} {g : Nat} {u v s : Value} (he : Ext w w') (h : w.cell? ⟨g, 0, none⟩ = some u ∧ w.cell? ⟨g, 1, none⟩ = some v ∧ w.cell? ⟨g, 2, none⟩ = some s) :
    w'.cell? ⟨g, 0, none⟩ = some u ∧ w'.cell? ⟨g, 1, none⟩ = some v ∧ w'.cell? ⟨g, 2, none⟩ = some s := ⟨he.cell h.1, he.cell h.2.1, he.cell h.2.2⟩
theorem blk_cells3 {w : World} {g t : Nat} {u v s : Value} (h : Blk w g t #[u, v, s]) : w.cell? ⟨g, 0, none⟩ = some u ∧ w.cell? ⟨g, 1, none⟩ = some v ∧ w.cell? ⟨g, 2, none⟩ = some s := ⟨h.cell 0, h.cell 1, h.cell 2⟩
theorem one3 {p r : Int} {C : Option Addr} {m d : Nat} : ∀ u ∈ (#[.int .i64 p, .int .i64 r, .slice C m d] : Array Value).toList, u.oneCell' = true := by
  intro u hu
  simp at hu
  rcases hu with rfl | rfl | rfl <;> rfl
/-- 'append(own row, one new element)', in a region that draws its order. -/
theorem step_push {P : Program} {ops : Array Oper} {o : Oper} {a : Act} {K : Act → World → Prop} {Q : Exit → Act → World → Prop} {E : Prop} {w1 : World} (hgd : o.guard = none) (s x : Operand) (t : TypeId)
    (ho : o.op = .call { callee := .builtin .append, args := #[s, x], argTypes := #[t, t] })
    (w0 : World) (base e : Nat) (i : TypeInfo) (zv : Value) (z bytes : Nat) (ht : P.underlying t = some (.slice e)) (hi : P.info? e = some i) (hz : i.zero = some zv)
    (hsize : i.size = z) (hby : i.bytes = bytes) (hzs : zv.cells.size = z) (hsz : 0 < z)
    (A : Option Addr) (n c : Nat) (xs : List Value) (hs : a.eval s = .slice A n c) (hown : Own w1 base e z A n c xs)
    (us : Array Value) (hu : us.size = z) (h1 : ∀ u ∈ us.toList, u.oneCell' = true) (hx : a.eval x = .slice (some ⟨w1.heap.size, 0, none⟩) 1 1)
    (h63 : n + 1 ≤ maxLen) (hbytes : (n + 1) * bytes ≤ 140737488355328) (he : Ext w0 w1) (hb : w0.heap.size ≤ base) (hbase : base ≤ w1.heap.size)
    (h : ∀ A' c' w', Own w' base e z A' (n + 1) c' (xs ++ us.toList) → w1.grownBy w' (Value.slice A n c).ownBlock → ((Value.slice A' (n + 1) c').ownBlock = (Value.slice A n c).ownBlock ∨ ∃ g, w1.heap.size ≤ g ∧ (Value.slice A' (n + 1) c').ownBlock = some g) → Ext w0 w' →
      K (a.put o.dst (.slice A' (n + 1) c')) w') : if Region.wanted o (yielded ops a.tmps) = true then Oper.wp P o a (w1.alloc (.cells us e)) K Q else E := by
  have hw : Region.wanted o (yielded ops a.tmps) = true := by simp [Region.wanted, hgd]
  rw [if_pos hw]
  have key : wpList P #[] Q [o] a (w1.alloc (.cells us e)) = wpList P #[] Q [o] a (w1.alloc (.cells us e)) := rfl
  clear key
  have hr : Rd (w1.alloc (.cells us e)) z (some ⟨w1.heap.size, 0, none⟩) 1 1 us.toList := by
    refine ⟨by simpa using hu, Nat.le_refl _, by unfold maxLen; omega, fun _ => ⟨_, rfl, fun j u hj => ?_⟩⟩
    have e1 : (⟨w1.heap.size, 0, none⟩ : Addr).add j = ⟨w1.heap.size, j, none⟩ := by simp [Addr.add_lit]
    rw [e1, (Blk.new w1 e us).cell j]
    simpa using hj
  have hc : ∀ j u, us.toList[j]? = some u → (w1.alloc (.cells us e)).cell? ((⟨w1.heap.size, 0, none⟩ : Addr).add j) = some u := by
    obtain ⟨ad', e1, hc⟩ := hr.at_ (k := 0) (by omega)
    injection e1 with e1
    subst e1
    exact hc
  have hown' := hown.ext (Ext.alloc w1 (.cells us e))
  obtain ⟨v', w', hrun, h2, h3, _, h5⟩ := run_append_own_at (P := P) (w1.alloc (.cells us e)) base t o.type e i zv z bytes ht hi hz hsize hby hzs hsz (.slice A n c) n xs hown' ⟨w1.heap.size, 0, none⟩ 1 1 us.toList hr.len hc h1 h63 hbytes (Nat.le_trans hbase (Ext.alloc w1 (.cells us e)).hsize)
  have hv : ∃ A' c', v' = .slice A' (n + 1) c' := by
    rcases h2.2 with ⟨rfl, h0'⟩ | ⟨g, cap, cur, rfl, _⟩
    · exact ⟨none, 0, by rw [h0']⟩
    · exact ⟨_, _, rfl⟩
  obtain ⟨A', c', rfl⟩ := hv
  unfold Oper.wp execOp
  simp only [ho, resolve, invoke, builtin, Sem.run_bind, Sem.run_pure, Result.andThen_ok, List.map_toArray, List.map_cons, List.map_nil, hs, hx, hrun]
  refine h A' c' w' h2 ⟨h3.os, h3.tape, h3.output, Nat.le_trans (Ext.alloc _ _).hsize h3.size, fun k hk hne => (h3.block k (Nat.lt_of_lt_of_le hk (Ext.alloc _ _).hsize) hne).trans (Below.heap_alloc _ _ _ hk)⟩ ?_ (Ext.grown (he.to_alloc _) h3 hown' hb)
  rcases h5 with k3 | k3
  · exact .inl k3
  · exact .inr ⟨_, (Ext.alloc _ _).hsize, k3⟩

set_option maxRecDepth 20000 in
set_option maxHeartbeats 8000000 in
theorem undo_own {e : List Spl} {l : List Int} {A E : Option Addr} {n c m d : Nat} {w : World} (hl : Ints w A n c l) (hA : A = none → c = 0) (h : EditAt w E m d e) (hz : chkF n e = 0) :
    Calls Try.prog 21 #[.slice A n c, .slice E m d] w fun e' w' => ∃ B q r, e' = .returned (.tuple #[.slice B q r, .int .i64 0]) ∧ EdOwn w' w.heap.size (.slice B q r) (undF l 0 e) ∧ Ext w w' := by
  obtain ⟨i0, hi, hz0, hz1, hz2⟩ := info_parts info_splice
  have HI := Lib.hid hi
  clear hi
  obtain ⟨_, hn4, hg0, hf0⟩ := chkF_zero.1 hz
  have hn4 : n ≤ 4096 := by omega
  have hlen := Lib.hid hl.len
  have hml := Lib.hid h.len
  have hnc := hl.ncap
  have hcm := hl.nmax
  have hmd := h.ncap
  have hdm := h.nmax
  unfold maxLen at hcm hdm
  have HAN := Lib.hid hA
  have HC := Lib.hid (check_in (N := n) h hn4)
  rw [hz] at HC
  have HG : Hid (∃ last, good n last (e.drop 0) ∧ behind 0 (e.drop 0) ∧ fits ((n : Int) + 0) (e.drop 0)) := Lib.hid ⟨-1, hg0, fun u hu => by
    rw [List.drop_zero] at hu
    cases e with
    | nil => cases hu
    | cons v e => cases hu; have := hg0.1; omega, by rw [Int.add_zero]; exact hf0⟩
  have hm4 : m ≤ 4097 := by have := good_len hg0 (by omega); rw [h.len] at this; omega
  clear hz hg0 hf0 hA
  go_enter Try.func21, Try.ntmps21
  go_wp2_with fail
  refine HC.out.mono ?_
  rintro e' w1 ⟨rfl, he1⟩
  clear HC
  go_wp2_with fail
  go_loopw [7, 8, 21] (fun o mv i wr => ∃ (k a q d' : Nat) (moved : Int) (B : Option Addr) (xs : List Value) (E1 : List Spl), k ≤ m ∧ i = .int .i64 k ∧ mv = .int .i64 moved ∧ o = .slice B q d' ∧ q = k ∧ a ≤ n ∧ -(a : Int) ≤ moved ∧ moved ≤ 8192 ∧ Own wr w.heap.size 45 3 B q d' xs ∧ EditsO wr w.heap.size (Value.slice B q d').ownBlock xs E1 ∧ Hid (undF l 0 e = E1 ++ undF l moved (e.drop k)) ∧ Hid (∃ last, good n last (e.drop k) ∧ behind a (e.drop k) ∧ fits ((n : Int) + moved) (e.drop k)) ∧ Ext w wr) (fun _ _ i _ => m - (intOf i).toNat)
  case atStart => exact ⟨0, 0, 0, 0, 0, none, [], [], by omega, rfl, rfl, rfl, rfl, by omega, by omega, by omega, World.ownsRow_nil _ _ _ _, EditsO.nil _ _ _, Lib.hid rfl, HG, he1⟩
  case round =>
    clear HG he1
    obtain ⟨k, a, q, d', moved, B, xs, E1, hk, rfl, rfl, rfl, hq, ha, hm1, hm2, hown, hedo, HA, HG, he⟩ := hrel
    subst hq
    by_cases hlt : q < m
    · obtain ⟨ad, S, x, y, rfl, k0, k1, k2, hx, _⟩ := h.at_ hlt
      have c0 := he.cell k0
      have c1 := he.cell k1
      have c2 := he.cell k2
      clear k0 k1 k2
      have hxy := hx.ncap
      have hym := hx.nmax
      unfold maxLen at hym
      have hde := drop_edit (e := e) (k := q) (by rw [hml.out]; exact hlt)
      obtain ⟨last, hgd, hbh, hft⟩ := HG.out
      rw [hde] at hgd hbh hft
      obtain ⟨g1, g2, g3, g4, g5, g6⟩ := hgd
      obtain ⟨ft1, ft2⟩ := hft
      have haf : (a : Int) ≤ (gE e q).f := hbh _ rfl
      obtain ⟨f, hf⟩ := Int.eq_ofNat_of_zero_le (show 0 ≤ (gE e q).f by omega)
      obtain ⟨t, ht⟩ := Int.eq_ofNat_of_zero_le (show 0 ≤ (gE e q).t by omega)
      have hxl := hx.len
      rw [hf, ht, hxl] at ft1 ft2
      have haf2 : a ≤ f := by omega
      have hft : f ≤ t := by omega
      have htn : t ≤ n := by omega
      have hx4 : x ≤ 4096 := by omega
      have hmv : (n : Int) + moved - ((t : Int) - (f : Int)) + (x : Int) ≤ 8192 := ft1
      have HG2 : Hid (∃ last, good n last (e.drop (q + 1)) ∧ behind t (e.drop (q + 1)) ∧ fits ((n : Int) + (moved + ((x : Int) - ((t : Int) - (f : Int))))) (e.drop (q + 1))) := Lib.hid ⟨_, g6, behind_next g6 ht, by
        rw [show (n : Int) + (moved + ((x : Int) - ((t : Int) - (f : Int)))) = (n : Int) + moved - ((t : Int) - (f : Int)) + (x : Int) by omega]; exact ft2⟩
      have HA2 : Hid (undF l 0 e = E1 ++ [(⟨(f : Int) + moved, (f : Int) + moved + (x : Int), (l.drop f).take (t - f)⟩ : Spl)] ++ undF l (moved + ((x : Int) - ((t : Int) - (f : Int)))) (e.drop (q + 1))) := Lib.hid (by
        rw [HA.out, hde]
        simp only [undF, hf, ht, hxl, Int.ofNat_eq_natCast, Int.toNat_natCast, List.append_assoc, List.singleton_append])
      rw [hf] at c0
      rw [ht] at c1
      have hx1 := he.to_alloc (.cells #[.int .i64 f, .int .i64 t, .slice S x y] 45)
      have hown1 := Own.ext hown (Ext.alloc wr (.cells #[.int .i64 f, .int .i64 t, .slice S x y] 45))
      have hedo1 := hedo.ext (Ext.alloc wr (.cells #[.int .i64 f, .int .i64 t, .slice S x y] 45))
      have hbk := Blk.new wr 45 #[.int .i64 f, .int .i64 t, .slice S x y]
      have HW : Hid (∀ g, (Value.slice B q d').ownBlock = some g → g < wr.heap.size) := Lib.hid (fun g hg => (Own.blk hown g hg).2)
      have hcut := run_cutA A n c f t hft (by omega)
      have HCL : Hid (∀ w', Ext w w' → Calls Try.prog 24 #[.slice (cutA A c f) (t - f) (c - f)] w' fun e w'' => ∃ B d, e = .returned (.slice B (t - f) d) ∧ OwnI w'' w'.heap.size B (t - f) d ((l.drop f).take (t - f)) ∧ (B = none → d = 0) ∧ Ext w' w'') :=
        Lib.hid (fun w' h' => clone_ok ((hl.cutA hft htn).ext h') (cutA_none HAN.out) (by omega))
      have hs1 := hx1.hsize
      clear HG HA hde hbh g1 g2 g3 g4 g5 g6 haf hf ht hx hown hedo hxl he ft1 ft2
      obtain ⟨p, hp⟩ : ∃ p, (f : Int) + moved = p := ⟨_, rfl⟩
      obtain ⟨r, hr⟩ : ∃ r, p + (x : Int) = r := ⟨_, rfl⟩
      have hw1 : IntKind.i64.wrap (p + (x : Int)) = r := by rw [IntWalk.i64_in _ (by omega)]; exact hr
      have HPR : Hid ((f : Int) + moved = p ∧ p + (x : Int) = r) := Lib.hid ⟨hp, hr⟩
      clear hr
      go_wp2_with fail
      clear hp
      have hsz : (wr.alloc (.cells #[.int .i64 f, .int .i64 t, .slice S x y] 45)).heap.size = wr.heap.size + 1 := by simp
      have HSZ := Lib.hid hsz
      revert hx1 hown1 hedo1 hbk hs1 HSZ
      clear hsz
      generalize wr.alloc (.cells #[.int .i64 f, .int .i64 t, .slice S x y] 45) = W0
      generalize wr.heap.size = g at *
      intro hx1 hown1 hedo1 hbk hs1 HSZ
      have q0 := hbk.cell 0
      have q1 := hbk.cell 1
      have q2 := hbk.cell 2
      simp only [List.getElem?_toArray, List.getElem?_cons_zero, List.getElem?_cons_succ] at q0 q1 q2
      have hft2 : (f : Int) ≤ (t : Int) := by omega
      go_region_held3 (fun w' => w'.cell? ⟨g, 0, none⟩ = some (.int .i64 f) ∧ w'.cell? ⟨g, 1, none⟩ = some (.int .i64 t) ∧ w'.cell? ⟨g, 2, none⟩ = some (.slice S x y)) (first | assumption | exact ⟨q0, q1, q2⟩ | exact cells3_ext (Ext.alloc _ _) (by assumption)) (first
        | (go_at_call 24
           refine (HCL.out _ hx1.to_drew).mono ?_
           rintro e' w2 ⟨C, dc, rfl, hoc, hcn, he2⟩
           have hx2 := hx1.to_drew.trans he2
           have hown2 := Own.ext hown1 ((Ext.drew _).trans he2)
           have hedo2 := EditsO.ext hedo1 ((Ext.drew _).trans he2)
           have hbk2 := hbk.ext ((Ext.drew _).trans he2)
           have hS2 := cells3_ext ((Ext.drew W0).trans he2) ⟨q0, q1, q2⟩)
        | (refine step_push rfl (.tmp 29) (.tmp 44) 39 rfl w w.heap.size 45 i0 _ 3 40 Try.underlying39 HI.out hz0 hz1 hz2 rfl (by decide) B q d' xs rfl hown2 #[.int .i64 p, .int .i64 r, .slice C (t - f) dc] rfl one3 rfl (by unfold maxLen; omega) (by omega) hx2 (Nat.le_refl _) hx2.hsize ?_
           intro A3 c3 w3 hown3 hgr hor hx3
           have hbk3 : Blk w3 g 45 #[.int .i64 f, .int .i64 t, .slice S x y] := hbk2.grown hgr (fun e => by have := HW.out g e.symm; omega)
           have hS3 := blk_cells3 hbk3))
      have hne : (Value.slice C (t - f) dc).ownBlock = none ∨ (Value.slice C (t - f) dc).ownBlock ≠ (Value.slice B q d').ownBlock := by
        cases hb : (Value.slice C (t - f) dc).ownBlock with
        | none => exact .inl rfl
        | some g' =>
          refine .inr fun e1 => ?_
          have h1 := (Own.blk hoc g' hb).1
          have h2 := HW.out g' e1.symm
          have h3 := HSZ.out
          have h4 : W0.drew.heap.size = W0.heap.size := rfl
          omega
      have hedo3 := EditsO.grown (EditsO.snoc hedo2 (s := ⟨p, r, (l.drop f).take (t - f)⟩) (Own.lower hoc hx1.to_drew.hsize) hcn hne) hgr hor
      have HE3 := Lib.hid hedo3
      have HO3 : Hid (Own w3 w.heap.size 45 3 A3 (q + 1) c3 (xs ++ [.int .i64 p, .int .i64 r, .slice C (t - f) dc])) := Lib.hid hown3
      obtain ⟨r0, r1, r2⟩ := hS3
      obtain ⟨mv, hmv2⟩ : ∃ mv, moved + ((x : Int) - ((t : Int) - (f : Int))) = mv := ⟨_, rfl⟩
      rw [hmv2] at HG2 HA2
      rw [HPR.out.1, HPR.out.2] at HA2
      have HA3 : Hid (undF l 0 e = (E1 ++ [(⟨p, r, (l.drop f).take (t - f)⟩ : Spl)]) ++ undF l mv (e.drop (q + 1))) := HA2
      have hb1 : -(t : Int) ≤ mv := by omega
      have hb2 : mv ≤ 8192 := by omega
      have HMV := Lib.hid hmv2
      clear hne hedo3 hown3 hgr hor hbk3 hS2 hbk2 hedo2 hown2 hx2 he2 hcn hoc hbk hedo1 hown1 hx1 q0 q1 q2 HA2 HW HSZ hw1 hcut hmv2
      go_wp2_with fail
      go_roundw
      case rel => exact ⟨q + 1, t, q + 1, c3, mv, A3, _, _, by omega, by go_num, by rw [← HMV.out], rfl, rfl, htn, hb1, hb2, HO3.out, HE3.out, HA3, HG2, hx3⟩
      case measure => simp [intOf]; omega
    · obtain rfl : q = m := by omega
      rw [List.drop_of_length_le (by rw [hml.out]; exact Nat.le_refl _)] at HA
      have HA2 : Hid (undF l 0 e = E1) := Lib.hid (by rw [HA.out]; simp [undF])
      clear HA HG
      go_wp2_with fail
      go_ret2
      exact ⟨B, q, d', rfl, by rw [HA2.out]; exact ⟨_, _, _, xs, _, rfl, hown, hedo⟩, he⟩

theorem undo_ok {e : List Spl} {l : List Int} {A E : Option Addr} {n c m d : Nat} {w : World} (hl : Ints w A n c l) (hA : A = none → c = 0) (h : EditAt w E m d e) (hz : chkF n e = 0) :
    Calls Try.prog 21 #[.slice A n c, .slice E m d] w fun e' w' => ∃ B q r, e' = .returned (.tuple #[.slice B q r, .int .i64 0]) ∧ EditAt w' B q r (undF l 0 e) ∧ Ext w w' :=
  (undo_own hl hA h hz).mono fun e' w' ⟨B, q, r, h1, h2, h3⟩ => ⟨B, q, r, h1, by
    obtain ⟨O, k, c, e1, h4⟩ := h2.at_
    injection e1 with e1 e2 e3
    subst e1; subst e2; subst e3
    exact h4, h3⟩

set_option maxRecDepth 20000 in
set_option maxHeartbeats 1000000 in
theorem undo_bad {e : List Spl} {l : List Int} {A E : Option Addr} {n c m d : Nat} {w : World} (hl : Ints w A n c l) (h : EditAt w E m d e) (hz : chkF n e ≠ 0) :
    Calls Try.prog 21 #[.slice A n c, .slice E m d] w fun e' w' => e' = .returned (.tuple #[.slice none 0 0, .int .i64 (chkF n e)]) ∧ Ext w w' := by
  have hcm := hl.nmax
  have hnc := hl.ncap
  have HC := Lib.hid (check_ok (N := n) h (by omega))
  generalize chkF n e = z at *
  have b1 : (z != 0) = true := by simpa using hz
  unfold maxLen at hcm
  go_enter Try.func21, Try.ntmps21
  go_wp2_with fail
  refine HC.out.mono ?_
  rintro e' w1 ⟨rfl, he1⟩
  clear HC
  go_wp2_with fail
  go_ret2
  exact ⟨rfl, he1⟩
end Go.Proofs.Ythphlghblmindaa
