/-
  Words of this seat for memory: a slice value that reads as a list of numbers, a list that is kept while the world grows, and rows of the call's own.
-/
import Derived.Test.YtdkjkcegchohfaaRows
import Derived.WalkKit
import Derived.ProofKit
import Derived.OpenShut
import Derived.WalkLawsBesides
import Derived.WalkSpells
import Derived.Below
import Derived.Laws.OwnMore
import Derived.Deep.AppendLies
import Derived.Deep.Draws
import Derived.Laws.Rows
import Derived.Maps.AppendAt
import Derived.RegionTactic
import Derived.OwnWalk
import Derived.ChangeSame
import Derived.Deep.QuietTactic
import Derived.BigQuiet
import Derived.Lib.Hide
import Derived.Deep.OwnRows
namespace Go.Proofs.Ytdkjkcegchohfaa
open Go.RowKit Go.WideShapes Go.ChangeShapes
set_option linter.unusedVariables false
set_option linter.unusedSimpArgs false

/-- The world has grown: nothing that was there has turned. -/
def Ext (w w' : World) : Prop := Below w.heap.size w w'

theorem Ext.refl (w : World) : Ext w w := Below.refl _ _
theorem Ext.trans {a b c : World} (h : Ext a b) (k : Ext b c) : Ext a c := Below.trans h (Below.mono k h.size)
theorem Ext.drew (w : World) : Ext w w.drew := (Below.refl _ _).drew
theorem Ext.drewN (w : World) (n : Nat) : Ext w (w.drewN n) := ⟨rfl, rfl, rfl, Nat.le_refl _, fun _ _ => rfl⟩
theorem Ext.alloc (w : World) (o : Obj) : Ext w (w.alloc o) := (Below.refl _ _).alloc (Nat.le_refl _) o
theorem Ext.setCell {w x : World} (h : Ext w x) {p : Addr} (hp : w.heap.size ≤ p.block) (u : Value) : Ext w (x.setCell p u) := Below.setCell h hp u
theorem Ext.to_drewN {w x : World} (h : Ext w x) (n : Nat) : Ext w (x.drewN n) := h.trans (Ext.drewN _ _)
theorem Ext.to_drew {w x : World} (h : Ext w x) : Ext w x.drew := h.trans (Ext.drew _)
theorem Ext.to_alloc {w x : World} (h : Ext w x) (o : Obj) : Ext w (x.alloc o) := h.trans (Ext.alloc _ _)
theorem Ext.below {w w' : World} (h : Ext w w') : Below w.heap.size w w' := h
theorem Ext.hsize {w w' : World} (h : Ext w w') : w.heap.size ≤ w'.heap.size := h.size
theorem Ext.cell {w w' : World} (h : Ext w w') {p : Addr} {v : Value} (hc : w.cell? p = some v) : w'.cell? p = some v :=
  (Below.cell h (World.block_lt_of_cell? w p hc)).trans hc

theorem drew2 (w : World) (a b : Nat) : (w.drewN a).drewN b = w.drewN (a + b) := World.drewN_drewN w a b
theorem quiet_drew {P : Program} {f : FuncId} {args : Array Value} {w : World} {n : Nat} {v : Value} (h : Calls P f args (w.drewN n) fun e w' => e = .returned v ∧ ∃ k, w' = (w.drewN n).drewN k) :
    Calls P f args (w.drewN n) fun e w'' => e = .returned v ∧ ∃ m, w'' = w.drewN m :=
  h.mono fun _ _ ⟨he, k, hk⟩ => ⟨he, n + k, by rw [hk]; exact drew2 _ _ _⟩
theorem ret_bool {a b : Bool} (h : a = b) : Ending.returned (.bool a) = .returned (.bool b) := by rw [h]
theorem ret_int {k : IntKind} {a b : Int} (h : a = b) : Ending.returned (.int k a) = .returned (.int k b) := by rw [h]

/-- A world that has grown out of w. -/
structure ExtW (w0 : World) where
  w : World
  h : Ext w0 w
/-- A region that draws its order and whose operations read, or call what makes memory alone and answers the same in every such world. -/
theorem wp_region_ext {P : Program} {id : Nat} {Q : Exit → Act → World → Prop} {a : Act} {w : World} {l : List Oper} (hm : P.follows .mixedOrders = true) (hB : Region.lexB .any l.toArray = true)
    (h : wpQuiet P l.toArray (fun w' => ∃ i : ExtW w, w' = i.w) (fun a' => ∀ w', (∃ i : ExtW w, w' = i.w) → Q .normal a' w') l a) : (Code.region id l.toArray true).wp P Q a w :=
  wp_region_quiet (C := fun w' => ∃ i : ExtW w, w' = i.w) hm hB ⟨⟨w.drew, Ext.drew w⟩, rfl⟩ (by simpa using h)
theorem ext_call {P : Program} {f : FuncId} {args : Array Value} {w : World} {i : ExtW w} {v : Value} (h : Calls P f args i.w fun e w' => e = .returned v ∧ Ext i.w w') :
    Calls P f args i.w fun e w'' => e = .returned v ∧ ∃ j : ExtW w, w'' = j.w :=
  h.mono fun _ w'' ⟨he, hx⟩ => ⟨he, ⟨w'', i.h.trans hx⟩, rfl⟩
theorem ExtW.cell {w0 : World} (i : ExtW w0) {p : Addr} {v : Value} (h : w0.cell? p = some v) : i.w.cell? p = some v := i.h.cell h

theorem block_of_add (a : Addr) (n : Nat) : (a.add n).block = a.block := by unfold Addr.add; split <;> rfl
theorem add_of_add (a : Addr) (i j : Nat) : (a.add i).add j = a.add (i + j) := by
  unfold Addr.add
  by_cases hi : i = 0 <;> by_cases hj : j = 0 <;> simp [hi, hj, Nat.add_assoc]
theorem add_nought (a : Addr) : a.add 0 = a := by unfold Addr.add; simp

/-- The slice '.slice A n c', its elements of z cells, holds the cells xs. -/
def Rd (w : World) (z : Nat) (A : Option Addr) (n c : Nat) (xs : List Value) : Prop :=
  xs.length = n * z ∧ n ≤ c ∧ c ≤ maxLen ∧ (0 < n → ∃ ad, A = some ad ∧ ∀ j u, xs[j]? = some u → w.cell? (ad.add j) = some u)

section
variable {w w' : World} {z n c : Nat} {A : Option Addr} {xs : List Value}
theorem Rd.len (h : Rd w z A n c xs) : xs.length = n * z := h.1
theorem Rd.ncap (h : Rd w z A n c xs) : n ≤ c := h.2.1
theorem Rd.nmax (h : Rd w z A n c xs) : c ≤ maxLen := h.2.2.1
theorem Rd.ext (h : Rd w z A n c xs) (he : Ext w w') : Rd w' z A n c xs := by
  obtain ⟨h1, h2, h3, h4⟩ := h
  refine ⟨h1, h2, h3, fun hn => ?_⟩
  obtain ⟨ad, e, hc⟩ := h4 hn
  exact ⟨ad, e, fun j u hu => he.cell (hc j u hu)⟩
theorem Rd.keep (h : Rd w z A n c xs) (hk : ∀ p u, w.cell? p = some u → w'.cell? p = some u) : Rd w' z A n c xs := by
  obtain ⟨h1, h2, h3, h4⟩ := h
  refine ⟨h1, h2, h3, fun hn => ?_⟩
  obtain ⟨ad, e, hc⟩ := h4 hn
  exact ⟨ad, e, fun j u hu => hk _ _ (hc j u hu)⟩
theorem Rd.at_ (h : Rd w z A n c xs) {k : Nat} (hk : k < n) : ∃ ad, A = some ad ∧ ∀ j u, xs[j]? = some u → w.cell? (ad.add j) = some u := h.2.2.2 (by omega)
theorem Rd.none_ (w : World) (z : Nat) : Rd w z none 0 0 [] := ⟨by simp, Nat.le_refl _, Nat.zero_le _, fun h => absurd h (by omega)⟩
theorem Rd.cut (h : Rd w z A n c xs) {k m : Nat} (hk : k ≤ m) (hm : m ≤ n) :
    Rd w z (if c = k then A else A.map (·.add (k * z))) (m - k) (c - k) ((xs.drop (k * z)).take ((m - k) * z)) := by
  obtain ⟨h1, h2, h3, h4⟩ := h
  refine ⟨?_, by omega, by omega, fun hn => ?_⟩
  · rw [List.length_take, List.length_drop, h1, ← Nat.sub_mul]
    exact Nat.min_eq_left (Nat.mul_le_mul_right _ (by omega))
  · obtain ⟨ad, rfl, hc⟩ := h4 (by omega)
    rw [if_neg (by omega)]
    refine ⟨ad.add (k * z), rfl, fun j u hu => ?_⟩
    rw [add_of_add]
    refine hc _ u ?_
    rw [List.getElem?_take] at hu
    split at hu
    · rw [← hu, List.getElem?_drop]
    · cases hu
end

/-- The k-th number; behind a name, so that no rewriting looks inside. -/
def gI (l : List Int) (k : Nat) : Int := l[k]?.getD 0

/-- The slice reads as these numbers. -/
def Ints (w : World) (A : Option Addr) (n c : Nat) (l : List Int) : Prop := Rd w 1 A n c (l.map (Value.int .i64))

theorem Ints.len {w : World} {A : Option Addr} {n c : Nat} {l : List Int} (h : Ints w A n c l) : l.length = n := by
  have := Rd.len h; simpa using this
theorem Ints.ext {w w' : World} {A : Option Addr} {n c : Nat} {l : List Int} (h : Ints w A n c l) (he : Ext w w') : Ints w' A n c l := Rd.ext h he
theorem Ints.at_ {w : World} {A : Option Addr} {n c : Nat} {l : List Int} (h : Ints w A n c l) {k : Nat} (hk : k < n) :
    ∃ ad, A = some ad ∧ ∀ j, j < n → w.cell? (ad.add j) = some (.int .i64 (gI l j)) := by
  obtain ⟨ad, e, hc⟩ := Rd.at_ h hk
  refine ⟨ad, e, fun j hj => hc j _ ?_⟩
  have hl := h.len
  simp [gI, show j < l.length by omega]
theorem Ints.cut {w : World} {A : Option Addr} {n c : Nat} {l : List Int} (h : Ints w A n c l) {k m : Nat} (hk : k ≤ m) (hm : m ≤ n) :
    Ints w (if c = k then A else A.map (·.add k)) (m - k) (c - k) ((l.drop k).take (m - k)) := by
  have := Rd.cut h hk hm
  unfold Ints
  rw [List.map_take, List.map_drop]
  simpa using this
/-- l[:k] -/
theorem Ints.front {w : World} {A : Option Addr} {n c : Nat} {l : List Int} (h : Ints w A n c l) {k : Nat} (hk : k ≤ n) : Ints w A k c (l.take k) := by
  have h1 := h.len
  have h2 := Rd.ncap h
  refine ⟨by simp; omega, by omega, Rd.nmax h, fun hn => ?_⟩
  obtain ⟨ad, e, hc⟩ := Rd.at_ h (k := 0) (by omega)
  refine ⟨ad, e, fun j u hu => hc j u ?_⟩
  rw [List.map_take, List.getElem?_take] at hu
  split at hu
  · exact hu
  · cases hu
/-- l[k:] -/
theorem Ints.back {w : World} {a : Addr} {n c : Nat} {l : List Int} (h : Ints w (some a) n c l) {k : Nat} (hk : k ≤ n) : Ints w (some (a.add k)) (n - k) (c - k) (l.drop k) := by
  have h1 := h.len
  have h2 := Rd.ncap h
  have h3 := Rd.nmax h
  refine ⟨by simp; omega, by omega, by omega, fun hn => ⟨_, rfl, fun j u hu => ?_⟩⟩
  obtain ⟨ad, e, hc⟩ := Rd.at_ h (k := 0) (by omega)
  injection e with e
  subst e
  rw [add_of_add]
  refine hc _ u ?_
  rw [← hu, List.map_drop, List.getElem?_drop]
theorem Ints.none_ (w : World) : Ints w none 0 0 [] := Rd.none_ w 1
theorem Ints.ncap {w : World} {A : Option Addr} {n c : Nat} {l : List Int} (h : Ints w A n c l) : n ≤ c := Rd.ncap h
theorem Ints.nmax {w : World} {A : Option Addr} {n c : Nat} {l : List Int} (h : Ints w A n c l) : c ≤ maxLen := Rd.nmax h
theorem Ints.one {w : World} {A : Option Addr} {n c : Nat} {l : List Int} (_ : Ints w A n c l) : ∀ u ∈ l.map (Value.int .i64), u.oneCell' = true := ints_oneCell _ _

/-- A row of the call's own. -/
def Own (w : World) (base e z : Nat) (A : Option Addr) (n c : Nat) (xs : List Value) : Prop := w.ownsRow base e z (.slice A n c) n xs
/-- A row of the call's own, of numbers. -/
def OwnI (w : World) (base : Nat) (A : Option Addr) (n c : Nat) (l : List Int) : Prop := Own w base 3 1 A n c (l.map (Value.int .i64))

section
variable {w w' : World} {base e z n c : Nat} {A : Option Addr} {xs : List Value} {l : List Int}
theorem Own.rd (h : Own w base e z A n c xs) : Rd w z A n c xs := by
  obtain ⟨h1, h2⟩ := h
  rcases h2 with ⟨hv, rfl⟩ | ⟨g, cap, cur, hv, hb, hg, hn, hcap, hcur, htake⟩
  · injection hv with hA _ hc
    subst hA; subst hc
    obtain rfl : xs = [] := List.eq_nil_of_length_eq_zero (by simpa using h1)
    exact Rd.none_ w z
  · injection hv with hA _ hc
    subst hA; subst hc
    refine ⟨h1, hn, hcap, fun _ => ⟨_, rfl, ?_⟩⟩
    have hown : w.ownsRow base e z (.slice (some ⟨g, 0, none⟩) n c) n xs := ⟨h1, .inr ⟨g, c, cur, rfl, hb, hg, hn, hcap, hcur, htake⟩⟩
    exact hown.cells (g := g) rfl
theorem OwnI.ints (h : OwnI w base A n c l) : Ints w A n c l := Own.rd h
theorem Own.nil (w : World) (base e z : Nat) : Own w base e z none 0 0 [] := World.ownsRow_nil w base e z
theorem OwnI.nil (w : World) (base : Nat) : OwnI w base none 0 0 [] := World.ownsRow_nil w base _ _
theorem Own.ext (h : Own w base e z A n c xs) (he : Ext w w') : Own w' base e z A n c xs := by
  obtain ⟨h1, h2⟩ := h
  refine ⟨h1, ?_⟩
  rcases h2 with h2 | ⟨g, cap, cur, hv, hb, hg, r⟩
  · exact .inl h2
  · exact .inr ⟨g, cap, cur, hv, hb, (Below.block he g (Array.getElem?_eq_some_iff.1 hg).1).trans hg, r⟩
theorem OwnI.ext (h : OwnI w base A n c l) (he : Ext w w') : OwnI w' base A n c l := Own.ext h he
theorem Own.lower {base' : Nat} (h : Own w base e z A n c xs) (hb : base' ≤ base) : Own w base' e z A n c xs := by
  obtain ⟨h1, h2⟩ := h
  refine ⟨h1, ?_⟩
  rcases h2 with h2 | ⟨g, cap, cur, hv, hbb, r⟩
  · exact .inl h2
  · exact .inr ⟨g, cap, cur, hv, Nat.le_trans hb hbb, r⟩
theorem Own.len (h : Own w base e z A n c xs) : xs.length = n * z := h.1
end

section
variable {w w' : World} {base e z n c : Nat} {A : Option Addr} {xs : List Value}
/-- The last element is left out: the row stays. -/
theorem Own.pop {k : Nat} (h : Own w base e 1 A n c xs) (hk : k ≤ n) (hn : 0 < n) : Own w base e 1 A k c (xs.take k) := by
  obtain ⟨h1, h2⟩ := h
  rcases h2 with ⟨_, h0⟩ | ⟨g, cap, cur, hv, hb, hg, hnc, hcap, hcur, ht⟩
  · omega
  · injection hv with hA _ hc
    subst hA; subst hc
    refine ⟨by simp; omega, .inr ⟨g, c, cur, rfl, hb, hg, by omega, hcap, hcur, ?_⟩⟩
    rw [← ht, List.take_take]
    congr 1
    omega
theorem Own.kept (h : Own w base e z A n c xs) {row : Option Nat} (hg : w.grownBy w' row) (hne : (Value.slice A n c).ownBlock = none ∨ (Value.slice A n c).ownBlock ≠ row) : Own w' base e z A n c xs :=
  World.ownsRow.kept h hg hne
theorem Own.setCell (h : Own w base e z A n c xs) {p : Addr} (hp : p.block < base) (u : Value) : Own (w.setCell p u) base e z A n c xs := ownsRow_setCell_below h hp u
theorem Own.blk (h : Own w base e z A n c xs) : ∀ g, (Value.slice A n c).ownBlock = some g → base ≤ g ∧ g < w.heap.size := World.ownsRow.lt h
end

/-- One row of the call's own has been written, and blocks have been made. -/
theorem Ext.grown {w0 w w' : World} {v : Value} {base e z n : Nat} {xs : List Value} (h : Ext w0 w) (hg : w.grownBy w' v.ownBlock) (hown : w.ownsRow base e z v n xs) (hb : w0.heap.size ≤ base) : Ext w0 w' :=
  Below.grown h hg h.size (fun k hk => Nat.le_trans hb (hown.lt k hk).1)

/-- A block that is known whole. -/
def Blk (w : World) (g : Nat) (t : TypeId) (cs : Array Value) : Prop := w.heap[g]? = some (.cells cs t (0, 0))

section
variable {w w' : World} {g : Nat} {t : TypeId} {cs : Array Value}
theorem Blk.lt (h : Blk w g t cs) : g < w.heap.size := by
  rcases Nat.lt_or_ge g w.heap.size with hlt | hge
  · exact hlt
  · unfold Blk at h; rw [Array.getElem?_eq_none hge] at h; cases h
theorem Blk.cell (h : Blk w g t cs) (i : Nat) : w.cell? ⟨g, i, none⟩ = cs[i]? := cell_of_row w g i cs t (0, 0) h
theorem Blk.frozen (h : Blk w g t cs) (i : Nat) : w.frozen? ⟨g, i, none⟩ = false := by
  unfold Blk at h
  simp [World.frozen?, h]
theorem Blk.new (w : World) (t : TypeId) (cs : Array Value) : Blk (w.alloc (.cells cs t)) w.heap.size t cs := heap_alloc_new w _
theorem Blk.ext (h : Blk w g t cs) (he : Ext w w') : Blk w' g t cs := (Below.block he g h.lt).trans h
theorem Blk.grown (h : Blk w g t cs) {row : Option Nat} (hb : w.grownBy w' row) (hg : some g ≠ row) : Blk w' g t cs := (hb.block g h.lt hg).trans h
theorem Blk.drewN (h : Blk w g t cs) (n : Nat) : Blk (w.drewN n) g t cs := h
theorem Blk.set_ (h : Blk w g t cs) (i : Nat) (u : Value) : Blk (w.setCell ⟨g, i, none⟩ u) g t (cs.setIfInBounds i u) := by
  unfold Blk at h ⊢
  simp [World.setCell, Array.getElem?_modify, h]
end
/-- The numbers of a block. -/
theorem Blk.ints {w : World} {g : Nat} {t : TypeId} {l : List Int} {n : Nat} (h : Blk w g t (l.map (Value.int .i64)).toArray) (hn : n = l.length) (hm : n ≤ maxLen) :
    Ints w (some ⟨g, 0, none⟩) n n l := by
  subst hn
  refine ⟨by simp, Nat.le_refl _, hm, fun _ => ⟨_, rfl, fun j u hu => ?_⟩⟩
  have : (⟨g, 0, none⟩ : Addr).add j = ⟨g, j, none⟩ := by simp [Addr.add_lit]
  rw [this, h.cell j]
  simpa using hu

/-- A block's cell. -/
theorem blk_cell {w : World} {g t : Nat} {l : List Int} (h : Blk w g t (l.map (Value.int .i64)).toArray) {k : Nat} (hk : k < l.length) : w.cell? ⟨g, k, none⟩ = some (.int .i64 (gI l k)) := by
  rw [h.cell k]; simp [gI, hk]
theorem blk_store {w : World} {g t : Nat} {l : List Int} (h : Blk w g t (l.map (Value.int .i64)).toArray) (k : Nat) (u : Int) : Blk (w.setCell ⟨g, k, none⟩ (.int .i64 u)) g t ((l.set k u).map (Value.int .i64)).toArray := by
  have := h.set_ k (.int .i64 u)
  rw [List.map_set, ← List.setIfInBounds_toArray]
  exact this

theorem made_ints (n : Nat) : madeCells (Value.int .i64 0).cells n = ((List.replicate n (0 : Int)).map (Value.int .i64)).toArray := by
  apply Array.ext
  · simp [size_madeCells]
  · intro i h1 h2
    simp [madeCells, Value.cells, Nat.mod_one]

section
variable {P : Program} {ops : Array Oper} {rest : List Oper} {o : Oper} {a : Act} {Q : Exit → Act → World → Prop}

/-- 'append(own row, what reads as news...)'. -/
theorem wpList_app {w : World} (hgd : o.guard = none) (s x : Operand) (t : TypeId)
    (ho : o.op = .call { callee := .builtin .append, args := #[s, x], argTypes := #[t, t] })
    (w0 : World) (base e : Nat) (i : TypeInfo) (zv : Value) (z bytes : Nat) (ht : P.underlying t = some (.slice e)) (hi : P.info? e = some i) (hz : i.zero = some zv)
    (hsize : i.size = z) (hby : i.bytes = bytes) (hzs : zv.cells.size = z) (hsz : 0 < z)
    (A : Option Addr) (n c : Nat) (xs : List Value) (hs : a.eval s = .slice A n c) (hown : Own w base e z A n c xs)
    (B : Option Addr) (m d : Nat) (news : List Value) (hx : a.eval x = .slice B m d) (hr : Rd w z B m d news) (h1 : ∀ u ∈ news, u.oneCell' = true)
    (h63 : n + m ≤ maxLen) (hbytes : (n + m) * bytes ≤ 140737488355328) (he : Ext w0 w) (hb : w0.heap.size ≤ base) (hbase : base ≤ w.heap.size)
    (h : ∀ A' c' w', Own w' base e z A' (n + m) c' (xs ++ news) → w.grownBy w' (Value.slice A n c).ownBlock → ((Value.slice A' (n + m) c').ownBlock = (Value.slice A n c).ownBlock ∨ (Value.slice A' (n + m) c').ownBlock = some w.heap.size) → Ext w0 w' →
      wpList P ops Q rest (a.put o.dst (.slice A' (n + m) c')) w') : wpList P ops Q (o :: rest) a w := by
  refine wpList_plain hgd fun K hK => ?_
  have key : ∃ A' c' w', (Builtin.append_ #[t, t] o.type #[.slice A n c, .slice B m d]).run P w = .ok (.slice A' (n + m) c') w' ∧ Own w' base e z A' (n + m) c' (xs ++ news) ∧ w.grownBy w' (Value.slice A n c).ownBlock ∧
      ((Value.slice A' (n + m) c').ownBlock = (Value.slice A n c).ownBlock ∨ (Value.slice A' (n + m) c').ownBlock = some w.heap.size) := by
    rcases B with _ | ad
    · have h0 : m = 0 := by
        rcases Nat.eq_zero_or_pos m with h0 | h0
        · exact h0
        · obtain ⟨ad, h, _⟩ := hr.at_ h0
          cases h
      subst h0
      have hn : news = [] := List.eq_nil_of_length_eq_zero (by simpa using hr.len)
      subst hn
      refine ⟨A, c, w, ?_, by simpa using hown, World.grownBy.refl w _, .inl rfl⟩
      rcases hown.2 with ⟨hv, hn0⟩ | ⟨g, cap, cur, hv, _, _, hnc, _⟩
      · injection hv with e1 e2 e3
        subst e1; subst e2; subst e3
        simp [Builtin.append_, run_underlying ht, sizeOf, typeInfo, hi, Builtin.lenOf, Builtin.firstCells]
      · injection hv with e1 e2 e3
        subst e1; subst e3
        simp [Builtin.append_, run_underlying ht, sizeOf, typeInfo, hi, Builtin.lenOf, Builtin.firstCells, hnc, storeCells]
    · have hc : ∀ j u, news[j]? = some u → w.cell? (ad.add j) = some u := by
        rcases Nat.eq_zero_or_pos m with h0 | h0
        · subst h0
          have hn : news = [] := List.eq_nil_of_length_eq_zero (by simpa using hr.len)
          subst hn
          intro j u hu
          simp at hu
        · obtain ⟨ad', e1, hc⟩ := hr.at_ h0
          injection e1 with e1
          subst e1
          exact hc
      obtain ⟨v', w', hrun, h2, h3, _, h5⟩ := run_append_own_at (P := P) w base t o.type e i zv z bytes ht hi hz hsize hby hzs hsz (.slice A n c) n xs hown ad m d news hr.len hc h1 h63 hbytes hbase
      have hv : ∃ A' c', v' = .slice A' (n + m) c' := by
        rcases h2.2 with ⟨rfl, h0'⟩ | ⟨g, cap, cur, rfl, _⟩
        · exact ⟨none, 0, by rw [h0']⟩
        · exact ⟨_, _, rfl⟩
      obtain ⟨A', c', rfl⟩ := hv
      exact ⟨A', c', w', hrun, h2, h3, h5⟩
  obtain ⟨A', c', w', hrun, h2, h3, h4⟩ := key
  unfold Oper.wp execOp
  simp only [ho, resolve, invoke, builtin, Sem.run_bind, Sem.run_pure, Result.andThen_ok, List.map_toArray, List.map_cons, List.map_nil, hs, hx, hrun]
  exact hK _ _ (h A' c' w' h2 h3 h4 (Ext.grown he h3 hown hb))

/-- An append whose run is known. -/
theorem wpList_append_run {w w' : World} (hgd : o.guard = none) (s x : Operand) (t t' : TypeId)
    (ho : o.op = .call { callee := .builtin .append, args := #[s, x], argTypes := #[t, t'] }) (u v r : Value) (hs : a.eval s = u) (hx : a.eval x = v)
    (hrun : (Builtin.append_ #[t, t'] o.type #[u, v]).run P w = .ok r w') (h : wpList P ops Q rest (a.put o.dst r) w') : wpList P ops Q (o :: rest) a w := by
  refine wpList_plain hgd fun K hK => ?_
  unfold Oper.wp execOp
  simp only [ho, resolve, invoke, builtin, Sem.run_bind, Sem.run_pure, Result.andThen_ok, List.map_toArray, List.map_cons, List.map_nil, hs, hx, hrun]
  exact hK _ _ h

/-- 'append(own row, one new element)': the element lies in a block made just now. -/
theorem wpList_push {w1 : World} (hgd : o.guard = none) (s x : Operand) (t : TypeId)
    (ho : o.op = .call { callee := .builtin .append, args := #[s, x], argTypes := #[t, t] })
    (w0 : World) (base e : Nat) (i : TypeInfo) (zv : Value) (z bytes : Nat) (ht : P.underlying t = some (.slice e)) (hi : P.info? e = some i) (hz : i.zero = some zv)
    (hsize : i.size = z) (hby : i.bytes = bytes) (hzs : zv.cells.size = z) (hsz : 0 < z)
    (A : Option Addr) (n c : Nat) (xs : List Value) (hs : a.eval s = .slice A n c) (hown : Own w1 base e z A n c xs)
    (us : Array Value) (hu : us.size = z) (h1 : ∀ u ∈ us.toList, u.oneCell' = true) (hx : a.eval x = .slice (some ⟨w1.heap.size, 0, none⟩) 1 1)
    (h63 : n + 1 ≤ maxLen) (hbytes : (n + 1) * bytes ≤ 140737488355328) (he : Ext w0 w1) (hb : w0.heap.size ≤ base) (hbase : base ≤ w1.heap.size)
    (h : ∀ A' c' w', Own w' base e z A' (n + 1) c' (xs ++ us.toList) → w1.grownBy w' (Value.slice A n c).ownBlock → ((Value.slice A' (n + 1) c').ownBlock = (Value.slice A n c).ownBlock ∨ ∃ g, w1.heap.size ≤ g ∧ (Value.slice A' (n + 1) c').ownBlock = some g) → Ext w0 w' →
      wpList P ops Q rest (a.put o.dst (.slice A' (n + 1) c')) w') : wpList P ops Q (o :: rest) a (w1.alloc (.cells us e)) := by
  have hr : Rd (w1.alloc (.cells us e)) z (some ⟨w1.heap.size, 0, none⟩) 1 1 us.toList := by
    refine ⟨by simpa using hu, Nat.le_refl _, by unfold maxLen; omega, fun _ => ⟨_, rfl, fun j u hj => ?_⟩⟩
    have e1 : (⟨w1.heap.size, 0, none⟩ : Addr).add j = ⟨w1.heap.size, j, none⟩ := by simp [Addr.add_lit]
    rw [e1, (Blk.new w1 e us).cell j]
    simpa using hj
  refine wpList_app hgd s x t ho w0 base e i zv z bytes ht hi hz hsize hby hzs hsz A n c xs hs (hown.ext (Ext.alloc _ _)) _ 1 1 us.toList hx hr h1 h63 hbytes (he.to_alloc _) hb (Nat.le_trans hbase (Ext.alloc _ _).hsize) ?_
  intro A' c' w' k1 k2 k3 k4
  refine h A' c' w' k1 ⟨k2.os, k2.tape, k2.output, Nat.le_trans (Ext.alloc _ _).hsize k2.size, fun k hk hne => (k2.block k (Nat.lt_of_lt_of_le hk (Ext.alloc _ _).hsize) hne).trans (Below.heap_alloc _ _ _ hk)⟩ ?_ k4
  rcases k3 with k3 | k3
  · exact .inl k3
  · exact .inr ⟨_, (Ext.alloc _ _).hsize, k3⟩

/-- '[]byte(s)'. -/
theorem wpList_bytes {w : World} (hgd : o.guard = none) (x : Operand) (src dst e : TypeId) (ho : o.op = .convert src dst x)
    (hs : P.underlying src = some .string) (hd : P.underlying dst = some (.slice e)) (hee : P.underlying e = some (.int .u8))
    (s : ByteArray) (hx : a.eval x = .string s) (hm : s.size ≤ maxLen)
    (h : ∀ ad c w', Rd w' 1 (some ad) s.size c (s.data.toList.map fun b => Value.int .u8 b.toNat) → Ext w w' → wpList P ops Q rest (a.put o.dst (.slice (some ad) s.size c)) w') : wpList P ops Q (o :: rest) a w := by
  refine wpList_plain hgd fun K hK => ?_
  have hrun := run_bytes_of_string (P := P) w src dst e s hs hd hee
  unfold Oper.wp execOp
  simp only [ho, hx, hrun, Result.andThen_ok, Sem.run_bind, Sem.run_pure]
  refine hK _ _ (h _ _ _ ?_ ((Ext.drew w).to_alloc _))
  refine ⟨by rw [List.length_map, Nat.mul_one]; rfl, grownCap_ge _ _ _ _, grownCap_le_maxLen _ _ _ _ hm, fun hn => ⟨_, rfl, fun j u hu => ?_⟩⟩
  have hj : j < s.size := by
    have := (List.getElem?_eq_some_iff.1 hu).1
    rw [List.length_map] at this
    exact this
  have e1 : (⟨w.heap.size, 0, none⟩ : Addr).add j = ⟨w.heap.size, j, none⟩ := by simp [Addr.add_lit]
  rw [e1]
  have := World.cell?_alloc_mark w.drew (bytesRow s (grownCap w s.size 0 e)) e ((bytesRow s (grownCap w s.size 0 e)).size, (bytesRow s (grownCap w s.size 0 e)).size + 1) j
  refine Eq.trans this ?_
  unfold bytesRow
  rw [Array.getElem?_append_left (by rw [Array.size_map]; exact hj), ← hu]
  simp
end

end Go.Proofs.Ytdkjkcegchohfaa
