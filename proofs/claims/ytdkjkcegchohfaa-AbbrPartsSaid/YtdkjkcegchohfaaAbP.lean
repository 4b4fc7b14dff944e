/-
  The machine in memory.
-/
import Derived.Test.YtdkjkcegchohfaaAbM
import Derived.Test.YtdkjkcegchohfaaMapO
import Derived.Test.YtdkjkcegchohfaaEqw
namespace Go.Proofs.Ytdkjkcegchohfaa
open Go.RowKit
set_option linter.unusedVariables false
set_option linter.unusedSimpArgs false

/-- Where a node's parts lie: its map, the row of its words. -/
structure AbN where
  m : Nat
  E : Option Addr
  n : Nat
  c : Nat
/-- Where all lies, and what each node falls back to. -/
structure AbA where
  g : Nat
  r : Nat
  c : Nat
  S : Option Addr
  Sn : Nat
  Sc : Nat
  ns : Nat → AbN
  fall : Nat → Nat
def AbN.row (x : AbN) : Value := .slice x.E x.n x.c
def upN {α : Type} (f : Nat → α) (i : Nat) (v : α) : Nat → α := fun j => if j = i then v else f j
theorem upN_at {α : Type} {f : Nat → α} {i : Nat} {v : α} : upN f i v i = v := if_pos rfl
theorem upN_ne {α : Type} {f : Nat → α} {i j : Nat} {v : α} (h : j ≠ i) : upN f i v j = f j := if_neg h
/-- The cells of the nodes. -/
def nodeC (fall : Nat → Nat) (ns : Nat → AbN) : Nat → List Value
  | 0 => []
  | n + 1 => nodeC fall ns n ++ [.map (some (ns n).m), .int .i64 (fall n), (ns n).row]
theorem nodeC_len (fall : Nat → Nat) (ns : Nat → AbN) : ∀ n, (nodeC fall ns n).length = n * 3
  | 0 => rfl
  | n + 1 => by simp [nodeC, nodeC_len fall ns n]; omega
theorem nodeC_at {fall : Nat → Nat} {ns : Nat → AbN} : ∀ {n i : Nat}, i < n → (nodeC fall ns n)[i * 3]? = some (.map (some (ns i).m)) ∧ (nodeC fall ns n)[i * 3 + 1]? = some (.int .i64 (fall i)) ∧ (nodeC fall ns n)[i * 3 + 2]? = some (ns i).row
  | n + 1, i, h => by
    have hl := nodeC_len fall ns n
    by_cases e : i = n
    · subst e
      simp only [nodeC]
      refine ⟨?_, ?_, ?_⟩
      · rw [List.getElem?_append_right (by omega), show i * 3 - (nodeC fall ns i).length = 0 by omega]; rfl
      · rw [List.getElem?_append_right (by omega), show i * 3 + 1 - (nodeC fall ns i).length = 1 by omega]; rfl
      · rw [List.getElem?_append_right (by omega), show i * 3 + 2 - (nodeC fall ns i).length = 2 by omega]; rfl
    · have hi : i < n := by omega
      obtain ⟨h1, h2, h3⟩ := nodeC_at (fall := fall) (ns := ns) hi
      simp only [nodeC]
      refine ⟨?_, ?_, ?_⟩
      · rw [List.getElem?_append_left (by omega)]; exact h1
      · rw [List.getElem?_append_left (by omega)]; exact h2
      · rw [List.getElem?_append_left (by omega)]; exact h3
theorem nodeC_congr {fall fall' : Nat → Nat} {ns ns' : Nat → AbN} : ∀ {n : Nat}, (∀ i, i < n → fall i = fall' i ∧ ns i = ns' i) → nodeC fall ns n = nodeC fall' ns' n
  | 0, _ => rfl
  | n + 1, h => by
    simp only [nodeC]
    rw [nodeC_congr (fun i hi => h i (by omega)), (h n (by omega)).1, (h n (by omega)).2]
theorem nodeC_add (fall : Nat → Nat) (ns : Nat → AbN) (n v : Nat) (x : AbN) : nodeC (upN fall n v) (upN ns n x) (n + 1) = nodeC fall ns n ++ [.map (some x.m), .int .i64 v, x.row] := by
  simp only [nodeC]
  rw [upN_at, upN_at, nodeC_congr (fall' := fall) (ns' := ns) (fun i hi => ⟨upN_ne (by omega), upN_ne (by omega)⟩)]
theorem nodeC_fall {fall : Nat → Nat} {ns : Nat → AbN} {v : Nat} : ∀ {n i : Nat}, i < n → (nodeC fall ns n).set (i * 3 + 1) (.int .i64 v) = nodeC (upN fall i v) ns n
  | n + 1, i, h => by
    have hl := nodeC_len fall ns n
    simp only [nodeC]
    by_cases e : i = n
    · subst e
      rw [upN_at, nodeC_congr (fall := upN fall i v) (fall' := fall) (ns' := ns) (fun j hj => ⟨upN_ne (by omega), rfl⟩), List.set_append_right _ _ (by omega), show i * 3 + 1 - (nodeC fall ns i).length = 1 by omega]
      rfl
    · rw [upN_ne (by omega), List.set_append_left _ _ (by omega), nodeC_fall (by omega)]
theorem nodeC_ends {fall : Nat → Nat} {ns : Nat → AbN} {x : AbN} : ∀ {n i : Nat}, i < n → x.m = (ns i).m → (nodeC fall ns n).set (i * 3 + 2) x.row = nodeC fall (upN ns i x) n
  | n + 1, i, h, hm => by
    have hl := nodeC_len fall ns n
    simp only [nodeC]
    by_cases e : i = n
    · subst e
      rw [upN_at, nodeC_congr (ns := upN ns i x) (fall' := fall) (ns' := ns) (fun j hj => ⟨rfl, upN_ne (by omega)⟩), List.set_append_right _ _ (by omega), show i * 3 + 2 - (nodeC fall ns i).length = 2 by omega, hm]
      rfl
    · rw [upN_ne (by omega), List.set_append_left _ _ (by omega), nodeC_ends (by omega) hm]

/-- What a node's map reads as. -/
def nxF (t : AC) (i : Nat) (c : Int) : Option Value := (t.nx i c).map fun j : Nat => .int .i64 (j : Int)
def endV (t : AC) (i : Nat) : List Int := (t.ends i).map fun k : Nat => (k : Int)
structure AbIs (w : World) (b0 K : Nat) (t : AC) (sz : List Int) (x : AbA) : Prop where
  pos : 0 < t.N
  max : t.N ≤ 5000
  cnt : K ≤ 100000
  g0 : b0 ≤ x.g
  blk : Blk w x.g 75 #[.slice (some ⟨x.r, 0, none⟩) t.N x.c, .slice x.S x.Sn x.Sc]
  row : Own w b0 72 3 (some ⟨x.r, 0, none⟩) t.N x.c (nodeC x.fall x.ns t.N)
  siz : OwnI w b0 x.S x.Sn x.Sc sz
  m0 : ∀ i, i < t.N → b0 ≤ (x.ns i).m
  map : ∀ i, i < t.N → MapO w (x.ns i).m K (nxF t i)
  ends : ∀ i, i < t.N → OwnI w b0 (x.ns i).E (x.ns i).n (x.ns i).c (endV t i)
  minj : ∀ i j, i < t.N → j < t.N → (x.ns i).m = (x.ns j).m → i = j
  einj : ∀ i j k, i < t.N → j < t.N → (x.ns i).row.ownBlock = some k → (x.ns j).row.ownBlock = some k → i = j
  esiz : ∀ i k, i < t.N → (x.ns i).row.ownBlock = some k → (Value.slice x.S x.Sn x.Sc).ownBlock ≠ some k

/-- What lies in a block: a map 0; cells their type and one. -/
def tyB (w : World) (k : Nat) : Nat := match w.heap[k]? with | some (.cells _ t _) => t + 1 | _ => 0
theorem Blk.ty {w : World} {g t : Nat} {cs : Array Value} (h : Blk w g t cs) : tyB w g = t + 1 := by
  unfold tyB; unfold Blk at h; rw [h]
theorem Own.ty {w : World} {b e z n c : Nat} {A : Option Addr} {xs : List Value} (h : Own w b e z A n c xs) {k : Nat} (hk : (Value.slice A n c).ownBlock = some k) : tyB w k = e + 1 := by
  rcases h.2 with ⟨hv, _⟩ | ⟨g, cap, cur, hv, _, hg, _⟩
  · rw [hv] at hk; cases hk
  · rw [hv] at hk
    injection hk with hk
    subst hk
    unfold tyB
    rw [hg]
theorem MapO.ty {w : World} {b n : Nat} {f : Int → Option Value} (h : MapO w b n f) : tyB w b = 0 := by
  obtain ⟨es, clock, e⟩ := h.block
  unfold tyB; rw [e]
theorem ne_ty {w : World} {j k a b : Nat} (hj : tyB w j = a) (hk : tyB w k = b) (h : a ≠ b) : j ≠ k := fun e => h (by rw [← hj, ← hk, e])

section
variable {w w' : World} {b0 K : Nat} {t : AC} {sz : List Int} {x : AbA} {N : List Nat}
theorem AbIs.ext (h : AbIs w b0 K t sz x) (he : Ext w w') : AbIs w' b0 K t sz x :=
  ⟨h.pos, h.max, h.cnt, h.g0, h.blk.ext he, h.row.ext he, Own.ext h.siz he, h.m0, fun i hi => (h.map i hi).ext he, fun i hi => Own.ext (h.ends i hi) he, h.minj, h.einj, h.esiz⟩
theorem AbIs.rty (h : AbIs w b0 K t sz x) : tyB w x.r = 72 + 1 := h.row.ty rfl
theorem AbIs.r0 (h : AbIs w b0 K t sz x) : b0 ≤ x.r ∧ x.r < w.heap.size := Own.blk h.row x.r rfl
theorem MapO.eqv {b n : Nat} {f : Int → Option Value} (h : MapO w b n f) (he : Eqv N w w') (hb : b ∉ N) : MapO w' b n f := h.at (he.2 b h.lt hb)

/-- A node more, that no one leads to yet. -/
def AC.raw (t : AC) (p : Nat) (c : Int) : AC := { t.add p c with nx := t.nx }
theorem AbIs.raw (h : AbIs w b0 K t sz x) (hN : t.N < 5000) (hx : ∀ c, t.nx t.N c = none) {r' c' m p : Nat} {d : Int} (hm : w.heap.size ≤ m) (hb : b0 ≤ w.heap.size) (hmap : MapO w' m 0 (fun _ => none))
    (hrow : Own w' b0 72 3 (some ⟨r', 0, none⟩) (t.N + 1) c' (nodeC x.fall x.ns t.N ++ [.map (some m), .int .i64 0, .slice none 0 0]))
    (hblk : Blk w' x.g 75 #[.slice (some ⟨r', 0, none⟩) (t.N + 1) c', .slice x.S x.Sn x.Sc]) (he : Eqv [x.r, x.g] w w') :
    AbIs w' b0 K (t.raw p d) sz { x with r := r', c := c', ns := upN x.ns t.N ⟨m, none, 0, 0⟩, fall := upN x.fall t.N 0 } := by
  have hraw : (t.raw p d).N = t.N + 1 := rfl
  have hnx : (t.raw p d).nx = t.nx := rfl
  have hne : ∀ i, (t.raw p d).ends i = if i = t.N then [] else t.ends i := fun i => rfl
  have hmg : ∀ k, tyB w k = 0 ∨ tyB w k = 4 → k ∉ [x.r, x.g] := fun k hk => by
    have h1 := h.rty
    have h2 := h.blk.ty
    intro hm
    rcases List.mem_cons.1 hm with e | hm
    · rw [e, h1] at hk; revert hk; decide
    · rw [List.mem_singleton.1 hm, h2] at hk; revert hk; decide
  refine ⟨by omega, by omega, h.cnt, h.g0, hblk, ?_, Own.eqv h.siz he (fun k hk => hmg k (.inr (Own.ty h.siz hk))), fun i hi => ?_, fun i hi => ?_, fun i hi => ?_, fun i j hi hj e => ?_, fun i j k hi hj e1 e2 => ?_, fun i k hi e => ?_⟩
  · show Own _ _ _ _ _ _ _ (nodeC (upN x.fall t.N 0) (upN x.ns t.N _) (t.N + 1))
    rw [nodeC_add]; exact hrow
  · show b0 ≤ (upN x.ns t.N _ i).m
    by_cases e : i = t.N
    · rw [e, upN_at]; exact Nat.le_trans hb hm
    · rw [upN_ne e]; exact h.m0 i (by omega)
  · show MapO _ (upN x.ns t.N _ i).m _ _
    by_cases e : i = t.N
    · rw [e, upN_at]
      have : nxF (t.raw p d) t.N = fun _ => none := by funext c; unfold nxF; rw [hnx, hx]; rfl
      rw [this]
      exact hmap.mono (Nat.zero_le _)
    · rw [upN_ne e]
      have h3 := h.map i (by omega)
      exact h3.eqv he (hmg _ (.inl h3.ty))
  · show OwnI _ _ (upN x.ns t.N _ i).E (upN x.ns t.N _ i).n (upN x.ns t.N _ i).c _
    by_cases e : i = t.N
    · rw [e, upN_at]
      have : endV (t.raw p d) t.N = [] := by unfold endV; rw [hne, if_pos rfl]; rfl
      rw [this]
      exact OwnI.nil _ _
    · rw [upN_ne e]
      have : endV (t.raw p d) i = endV t i := by unfold endV; rw [hne, if_neg e]
      rw [this]
      have h3 := h.ends i (by omega)
      exact Own.eqv h3 he (fun k hk => hmg k (.inr (Own.ty h3 hk)))
  · have e' : (upN x.ns t.N ⟨m, none, 0, 0⟩ i).m = (upN x.ns t.N ⟨m, none, 0, 0⟩ j).m := e
    by_cases e1 : i = t.N
    · by_cases e2 : j = t.N
      · omega
      · rw [e1, upN_at, upN_ne e2] at e'
        have h1 := (h.map j (by omega)).lt
        have h2 : m = (x.ns j).m := e'
        omega
    · by_cases e2 : j = t.N
      · rw [e2, upN_at, upN_ne e1] at e'
        have h1 := (h.map i (by omega)).lt
        have h2 : (x.ns i).m = m := e'
        omega
      · rw [upN_ne e1, upN_ne e2] at e'
        exact h.minj i j (by omega) (by omega) e'
  · have e1' : (upN x.ns t.N ⟨m, none, 0, 0⟩ i).row.ownBlock = some k := e1
    have e2' : (upN x.ns t.N ⟨m, none, 0, 0⟩ j).row.ownBlock = some k := e2
    by_cases q1 : i = t.N
    · rw [q1, upN_at] at e1'; cases e1'
    · by_cases q2 : j = t.N
      · rw [q2, upN_at] at e2'; cases e2'
      · rw [upN_ne q1] at e1'
        rw [upN_ne q2] at e2'
        exact h.einj i j k (by omega) (by omega) e1' e2'
  · have e' : (upN x.ns t.N ⟨m, none, 0, 0⟩ i).row.ownBlock = some k := e
    by_cases q1 : i = t.N
    · rw [q1, upN_at] at e'; cases e'
    · rw [upN_ne q1] at e'
      exact h.esiz i k (by omega) e'

/-- A node is led to. -/
theorem AbIs.led {p : Nat} {d : Int} (h : AbIs w b0 K (t.raw p d) sz x) (hp : p < t.N) (hK : K < 100000) (hmap : MapO w' (x.ns p).m (K + 1) (updO (nxF (t.raw p d) p) d (.int .i64 t.N))) (hg : w.grownBy w' (some (x.ns p).m)) : AbIs w' b0 (K + 1) (t.add p d) sz x := by
  have hN : (t.add p d).N = (t.raw p d).N := rfl
  have hN2 : (t.raw p d).N = t.N + 1 := rfl
  have hp' : p < (t.raw p d).N := by omega
  have he : Eqv [(x.ns p).m] w w' := Eqv.grown hg (fun k hk => by injection hk with hk; simp [hk])
  have hmt := (h.map p hp').ty
  have hmg : ∀ k a, tyB w k = a + 1 → k ∉ [(x.ns p).m] := fun k a hk hm => by
    rw [List.mem_singleton.1 hm, hmt] at hk; omega
  refine ⟨h.pos, h.max, by omega, h.g0, h.blk.eqv he (hmg _ _ h.blk.ty), Own.eqv h.row he (fun k hk => hmg _ _ (h.row.ty hk)), Own.eqv h.siz he (fun k hk => hmg _ _ (Own.ty h.siz hk)), h.m0, fun i hi => ?_, fun i hi => Own.eqv (h.ends i hi) he (fun k hk => hmg _ _ (Own.ty (h.ends i hi) hk)), h.minj, h.einj, h.esiz⟩
  by_cases e : i = p
  · subst e
    have : nxF (t.add i d) i = updO (nxF (t.raw i d) i) d (.int .i64 t.N) := by
      funext c
      unfold nxF updO
      show Option.map _ (if i = i ∧ c = d then some t.N else t.nx i c) = if c = d then _ else Option.map _ (t.nx i c)
      by_cases ec : c = d
      · rw [if_pos ⟨rfl, ec⟩, if_pos ec]; rfl
      · rw [if_neg (fun e => ec e.2), if_neg ec]
    rw [this]
    exact hmap
  · have : nxF (t.add p d) i = nxF (t.raw p d) i := by
      funext c
      unfold nxF
      show Option.map _ (if i = p ∧ c = d then some t.N else t.nx i c) = Option.map _ (t.nx i c)
      rw [if_neg (fun e' => e e'.1)]
    rw [this]
    exact ((h.map i hi).eqv he (fun hm => e (h.minj i p hi hp' (List.mem_singleton.1 hm)))).mono (by omega)

/-- A word ends at a node. -/
theorem AbIs.ended (h : AbIs w b0 K t sz x) {p k n' c' : Nat} {E' : Option Addr} (hp : p < t.N) (hrow : Own w' b0 72 3 (some ⟨x.r, 0, none⟩) t.N x.c (nodeC x.fall (upN x.ns p ⟨(x.ns p).m, E', n', c'⟩) t.N))
    (hE : OwnI w' b0 E' n' c' (endV t p ++ [(k : Int)])) (hwhere : ∀ j, (Value.slice E' n' c').ownBlock = some j → (x.ns p).row.ownBlock = some j ∨ w.heap.size ≤ j) (he : Eqv N w w') (hN : ∀ j, j ∈ N → j = x.r ∨ (x.ns p).row.ownBlock = some j) :
    AbIs w' b0 K (t.endAt p k) sz { x with ns := upN x.ns p ⟨(x.ns p).m, E', n', c'⟩ } := by
  have hNt : ∀ j, j ∈ N → tyB w j = 72 + 1 ∨ tyB w j = 4 := fun j hj => by
    rcases hN j hj with e | e
    · rw [e]; exact .inl h.rty
    · exact .inr (Own.ty (h.ends p hp) e)
  have hmi : ∀ i, (upN x.ns p ⟨(x.ns p).m, E', n', c'⟩ i).m = (x.ns i).m := fun i => by
    by_cases e : i = p
    · rw [e, upN_at]
    · rw [upN_ne e]
  refine ⟨h.pos, h.max, h.cnt, h.g0, h.blk.eqv he (fun hm => ?_), hrow, Own.eqv h.siz he (fun j hj hm => ?_), fun i hi => ?_, fun i hi => ?_, fun i hi => ?_, fun i j hi hj e => ?_, fun i j q hi hj e1 e2 => ?_, fun i q hi e => ?_⟩
  · have h1 := hNt _ hm
    rw [h.blk.ty] at h1
    revert h1; decide
  · rcases hN j hm with e | e
    · have h1 := Own.ty h.siz hj
      rw [e, h.rty] at h1
      revert h1; decide
    · exact h.esiz p j hp e hj
  · show b0 ≤ (upN x.ns p _ i).m
    rw [hmi]; exact h.m0 i hi
  · show MapO _ (upN x.ns p _ i).m _ _
    rw [hmi]
    exact (h.map i hi).eqv he (fun hm => by have h1 := hNt _ hm; rw [(h.map i hi).ty] at h1; revert h1; decide)
  · show OwnI _ _ (upN x.ns p _ i).E (upN x.ns p _ i).n (upN x.ns p _ i).c _
    by_cases e : i = p
    · subst e
      rw [upN_at]
      have : endV (t.endAt i k) i = endV t i ++ [(k : Int)] := by simp [endV, AC.endAt]
      rw [this]; exact hE
    · rw [upN_ne e]
      have : endV (t.endAt p k) i = endV t i := by simp [endV, AC.endAt, e]
      rw [this]
      refine Own.eqv (h.ends i hi) he (fun j hj hm => ?_)
      rcases hN j hm with e1 | e1
      · have h1 := Own.ty (h.ends i hi) hj
        rw [e1, h.rty] at h1
        revert h1; decide
      · exact e (h.einj i p j hi hp hj e1)
  · refine h.minj i j hi hj ?_
    have e' : (upN x.ns p ⟨(x.ns p).m, E', n', c'⟩ i).m = (upN x.ns p ⟨(x.ns p).m, E', n', c'⟩ j).m := e
    rwa [hmi, hmi] at e'
  · have e1' : (upN x.ns p ⟨(x.ns p).m, E', n', c'⟩ i).row.ownBlock = some q := e1
    have e2' : (upN x.ns p ⟨(x.ns p).m, E', n', c'⟩ j).row.ownBlock = some q := e2
    by_cases q1 : i = p
    · by_cases q2 : j = p
      · omega
      · rw [q1, upN_at] at e1'
        rw [upN_ne q2] at e2'
        rcases hwhere q e1' with e | e
        · exact absurd (h.einj j p q hj hp e2' e) q2
        · have := (Own.blk (h.ends j hj) q e2').2; omega
    · by_cases q2 : j = p
      · rw [q2, upN_at] at e2'
        rw [upN_ne q1] at e1'
        rcases hwhere q e2' with e | e
        · exact absurd (h.einj i p q hi hp e1' e) q1
        · have := (Own.blk (h.ends i hi) q e1').2; omega
      · rw [upN_ne q1] at e1'
        rw [upN_ne q2] at e2'
        exact h.einj i j q hi hj e1' e2'
  · have e' : (upN x.ns p ⟨(x.ns p).m, E', n', c'⟩ i).row.ownBlock = some q := e
    show (Value.slice x.S x.Sn x.Sc).ownBlock ≠ some q
    by_cases q1 : i = p
    · rw [q1, upN_at] at e'
      rcases hwhere q e' with e | e
      · exact h.esiz p q hp e
      · intro hs; have := (Own.blk h.siz q hs).2; omega
    · rw [upN_ne q1] at e'
      exact h.esiz i q hi e'

/-- A size more. -/
theorem AbIs.sized (h : AbIs w b0 K t sz x) {v : Int} {n' c' : Nat} {S' : Option Addr} (hS : OwnI w' b0 S' n' c' (sz ++ [v])) (hblk : Blk w' x.g 75 #[.slice (some ⟨x.r, 0, none⟩) t.N x.c, .slice S' n' c'])
    (hwhere : ∀ j, (Value.slice S' n' c').ownBlock = some j → (Value.slice x.S x.Sn x.Sc).ownBlock = some j ∨ w.heap.size ≤ j) (he : Eqv N w w') (hN : ∀ j, j ∈ N → j = x.g ∨ (Value.slice x.S x.Sn x.Sc).ownBlock = some j) :
    AbIs w' b0 K t (sz ++ [v]) { x with S := S', Sn := n', Sc := c' } := by
  have hNt : ∀ j, j ∈ N → tyB w j = 75 + 1 ∨ tyB w j = 4 := fun j hj => by
    rcases hN j hj with e | e
    · rw [e]; exact .inl h.blk.ty
    · exact .inr (Own.ty h.siz e)
  refine ⟨h.pos, h.max, h.cnt, h.g0, hblk, Own.eqv h.row he (fun j hj hm => ?_), hS, h.m0, fun i hi => ?_, fun i hi => ?_, h.minj, h.einj, fun i q hi e hs => ?_⟩
  · have h1 := hNt _ hm
    rw [h.row.ty hj] at h1
    revert h1; decide
  · exact (h.map i hi).eqv he (fun hm => by have h1 := hNt _ hm; rw [(h.map i hi).ty] at h1; revert h1; decide)
  · refine Own.eqv (h.ends i hi) he (fun j hj hm => ?_)
    rcases hN j hm with e | e
    · have h1 := Own.ty (h.ends i hi) hj
      rw [e, h.blk.ty] at h1
      revert h1; decide
    · exact h.esiz i j hi hj e
  · rcases hwhere q hs with e1 | e1
    · exact h.esiz i q hi e e1
    · have := (Own.blk (h.ends i hi) q e).2; omega

/-- Where a node falls back to. -/
theorem AbIs.falls (h : AbIs w b0 K t sz x) {p v : Nat} (hp : p < t.N) : AbIs (w.setCell ⟨x.r, p * 3 + 1, none⟩ (.int .i64 v)) b0 K t sz { x with fall := upN x.fall p v } := by
  have he : Eqv [x.r] w (w.setCell ⟨x.r, p * 3 + 1, none⟩ (.int .i64 v)) := Eqv.setCell _ _ _ (by simp)
  have h0 := (World.ownsRow.stored h.row (p * 3 + 1) (.int .i64 v)).1
  rw [nodeC_fall hp] at h0
  have hr := h.rty
  refine ⟨h.pos, h.max, h.cnt, h.g0, h.blk.eqv he (fun hm => ?_), h0, Own.eqv h.siz he (fun j hj hm => ?_), h.m0, fun i hi => (h.map i hi).eqv he (fun hm => ?_), fun i hi => Own.eqv (h.ends i hi) he (fun j hj hm => ?_), h.minj, h.einj, h.esiz⟩
  · have h1 := h.blk.ty
    rw [List.mem_singleton.1 hm, hr] at h1
    revert h1; decide
  · have h1 := Own.ty h.siz hj
    rw [List.mem_singleton.1 hm, hr] at h1
    revert h1; decide
  · have h1 := (h.map i hi).ty
    rw [List.mem_singleton.1 hm, hr] at h1
    revert h1; decide
  · have h1 := Own.ty (h.ends i hi) hj
    rw [List.mem_singleton.1 hm, hr] at h1
    revert h1; decide
end
end Go.Proofs.Ytdkjkcegchohfaa
