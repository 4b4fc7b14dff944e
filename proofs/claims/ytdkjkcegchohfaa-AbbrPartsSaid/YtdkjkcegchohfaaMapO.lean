/-
  A map from int that the call itself made, as a function from numbers to values or none; ranged over.
-/
import Derived.Test.YtdkjkcegchohfaaMapV
import Derived.Maps.RangeWalk
import Derived.Maps.OwnSet
namespace Go.Proofs.Ytdkjkcegchohfaa
open Go.RowKit Go.Maps
set_option linter.unusedVariables false
set_option linter.unusedSimpArgs false

/-- What a map reads as: f at each number. -/
def ReadsO (D : DataW Value) (f : Int → Option Value) : Prop :=
  IsMap D ∧ ∀ k, (Lit.int .i64 k).wf = true → ∀ zd, D.atKey (.int .i64 k) zd = match f k with | some v => .held v | none => zd
/-- Block b is a map of at most n entries: f. -/
def MapO (w : World) (b n : Nat) (f : Int → Option Value) : Prop :=
  ∃ D : DataW Value, w.ownsMap Try.prog 3 itself b n D ∧ ReadsO D f
def updO (f : Int → Option Value) (k : Int) (v : Value) : Int → Option Value := fun x => if x = k then some v else f x

theorem ReadsO.has {D : DataW Value} {f : Int → Option Value} (h : ReadsO D f) {k : Int} (hk : (Lit.int .i64 k).wf = true) : Maps.has D (.int .i64 k) = (f k).isSome := by
  have h1 := h.2 k hk
  cases e : f k with
  | none => exact has_false_of_atKey (fun z => by rw [h1, e])
  | some v => exact has_true_of_atKey (y := .held v) (fun z => by rw [h1, e])

section
variable {w w' : World} {b n : Nat} {f : Int → Option Value}
theorem MapO.mapV (h : MapO w b n f) (z : Value) : MapV w z b n (fun k => (f k).getD z) := by
  obtain ⟨D, h1, h2, h3⟩ := h
  refine ⟨D, h1, h2, fun k hk => ?_⟩
  rw [h3 k hk]
  show _ = DataW.held ((f k).getD z)
  cases f k <;> simp
theorem MapO.made (w : World) : MapO (w.alloc (.map #[] 0)) w.heap.size 0 (fun _ => none) :=
  ⟨.map [], World.ownsMap_made w _ _ _, ⟨[], rfl⟩, fun _ _ _ => rfl⟩
theorem MapO.grown (h : MapO w b n f) {row : Option Nat} (hg : w.grownBy w' row) (hr : some b ≠ row) : MapO w' b n f := by
  obtain ⟨D, h1, h2⟩ := h
  exact ⟨D, h1.kept hg hr, h2⟩
theorem MapO.at (h : MapO w b n f) (he : w'.heap[b]? = w.heap[b]?) : MapO w' b n f := by
  obtain ⟨D, ⟨es, clock, hb, r⟩, h2⟩ := h
  exact ⟨D, ⟨es, clock, he.trans hb, r⟩, h2⟩
theorem MapO.mono (h : MapO w b n f) {m : Nat} (hm : n ≤ m) : MapO w b m f := by
  obtain ⟨D, h1, h2⟩ := h
  exact ⟨D, h1.mono hm, h2⟩
theorem MapO.lt (h : MapO w b n f) : b < w.heap.size := by obtain ⟨D, h1, _⟩ := h; exact h1.lt
theorem MapO.block (h : MapO w b n f) : ∃ es clock, w.heap[b]? = some (.map es clock) := by
  obtain ⟨D, ⟨es, clock, hb, _⟩, _⟩ := h
  exact ⟨es, clock, hb⟩
theorem MapO.ext (h : MapO w b n f) (he : Ext w w') : MapO w' b n f := h.at (Below.block he b h.lt)
theorem MapO.get (h : MapO w b n f) {z : Value} {t e : Nat} (ht : Try.prog.underlying t = some (.map 3 e)) (hz : (zeroValue e).run Try.prog w = .ok z w) {k : Int} (hk : (Lit.int .i64 k).wf = true) :
    (Instr.lookup t (.map (some b)) (.int .i64 k) false).run Try.prog w = .ok ((f k).getD z) w := (h.mapV z).get ht hz hk
theorem MapO.put (h : MapO w b n f) {t e : Nat} (ht : Try.prog.underlying t = some (.map 3 e)) (hn : n < maxLen) (k : Int) (v : Value) (hk : (Lit.int .i64 k).wf = true) :
    ∃ w', (Instr.mapUpdate t (.map (some b)) (.int .i64 k) v).run Try.prog w = .ok () w' ∧ MapO w' b (n + 1) (updO f k v) ∧ w.grownBy w' (some b) := by
  obtain ⟨D, h1, h2, h3⟩ := h
  obtain ⟨w', hrun, k1, k2⟩ := h1.update key_intV ht hn (keyOf_int_mk Try.underlying3 hk) (show itself v = some (.held v, []) from rfl)
  refine ⟨w', hrun, ⟨_, k1, h2.put _ _, fun x hx zd => ?_⟩, k2⟩
  unfold updO
  by_cases e : x = k
  · subst e
    rw [if_pos rfl, atKey_put_same h2 (show WideAt.IsKeyLit (.int .i64 x) from trivial)]
  · rw [if_neg e, atKey_put_other (by intro h; injection h with _ h; exact e h), h3 x hx]

/-- A loop over the map under way: which numbers are still to come. -/
def RangesO (w : World) (b r n : Nat) (f : Int → Option Value) (left : Lit → Bool) (cnt : Nat) : Prop :=
  ∃ D : DataW Value, w.ranges Try.prog 3 itself b r n D left cnt ∧ ReadsO D f
theorem RangesO.map {r : Nat} {left : Lit → Bool} {cnt : Nat} (h : RangesO w b r n f left cnt) : MapO w b n f := by
  obtain ⟨D, h1, h2⟩ := h
  exact ⟨D, h1.owns, h2⟩
theorem RangesO.left_eq {r : Nat} {left : Lit → Bool} {cnt : Nat} (h : RangesO w b r n f left cnt) : w.rangeLeft b r = cnt := by
  obtain ⟨D, h1, _⟩ := h
  exact h1.left_eq
theorem RangesO.ne {r : Nat} {left : Lit → Bool} {cnt : Nat} (h : RangesO w b r n f left cnt) : r ≠ b := by
  obtain ⟨D, h1, _⟩ := h
  exact h1.ne
theorem RangesO.lt {r : Nat} {left : Lit → Bool} {cnt : Nat} (h : RangesO w b r n f left cnt) : r < w.heap.size := by
  obtain ⟨D, h1, _⟩ := h
  exact h1.lt
theorem RangesO.at {r : Nat} {left : Lit → Bool} {cnt : Nat} (h : RangesO w b r n f left cnt) (hb : w'.heap[b]? = w.heap[b]?) (hr : w'.heap[r]? = w.heap[r]?) : RangesO w' b r n f left cnt := by
  obtain ⟨D, ⟨es, clock, since, seen, c0, e1, F, hs, hD, e2, rest⟩, h2⟩ := h
  exact ⟨D, ⟨es, clock, since, seen, c0, hb.trans e1, F, hs, hD, hr.trans e2, rest⟩, h2⟩
end

/-- 'm[k] = v'. -/
theorem wpList_put_o (w : World) {ops : Array Oper} {rest : List Oper} {o : Oper} {a : Act} {Q : Exit → Act → World → Prop} (hg : o.guard = none) (m x v : Operand) (t e : TypeId) (hop : o.op = Op.mapUpdate t m x v)
    (ht : Try.prog.underlying t = some (.map 3 e)) {b n : Nat} {f : Int → Option Value} (hm : a.eval m = .map (some b)) (h : MapO w b n f) (hn : n < maxLen) (k : Int) (u : Value) (hx : a.eval x = .int .i64 k) (hk : (Lit.int .i64 k).wf = true) (hv : a.eval v = u)
    (hK : ∀ w', MapO w' b (n + 1) (updO f k u) → w.grownBy w' (some b) → wpList Try.prog ops Q rest (a.put o.dst undef) w') :
    wpList Try.prog ops Q (o :: rest) a w := by
  refine wpList_plain hg fun K' hK' => ?_
  obtain ⟨w', hrun, k1, k2⟩ := h.put ht hn k u hk
  unfold Oper.wp
  simp [execOp, hop, hm, hx, hv, hrun, Result.andThen]
  exact hK' _ _ (hK w' k1 k2)
/-- 'm[k]'. -/
theorem wpList_get_o (w : World) {ops : Array Oper} {rest : List Oper} {o : Oper} {a : Act} {Q : Exit → Act → World → Prop} (hg : o.guard = none) (m x : Operand) (t e : TypeId) (hop : o.op = Op.lookup t m x false)
    (ht : Try.prog.underlying t = some (.map 3 e)) {b n : Nat} {f : Int → Option Value} (hm : a.eval m = .map (some b)) (h : MapO w b n f) (k : Int) (z : Value) (hx : a.eval x = .int .i64 k) (hk : (Lit.int .i64 k).wf = true) (hz : (zeroValue e).run Try.prog w = .ok z w)
    (hK : wpList Try.prog ops Q rest (a.put o.dst ((f k).getD z)) w) :
    wpList Try.prog ops Q (o :: rest) a w := by
  refine wpList_plain hg fun K' hK' => ?_
  have hrun := h.get ht hz hk
  unfold Oper.wp
  simp [execOp, hop, hm, hx, hrun, Result.andThen]
  exact hK' _ _ hK
/-- 'range m'. -/
theorem wpList_range_o (w : World) {ops : Array Oper} {rest : List Oper} {o : Oper} {a : Act} {Q : Exit → Act → World → Prop} (hg : o.guard = none) (m : Operand) (t e : TypeId) (hop : o.op = Op.range t m)
    (ht : Try.prog.underlying t = some (.map 3 e)) {b n : Nat} {f : Int → Option Value} (hm : a.eval m = .map (some b)) (h : MapO w b n f)
    (hK : ∀ w' left, RangesO w' b w.heap.size n f left (w'.rangeLeft b w.heap.size) → (∀ k, (Lit.int .i64 k).wf = true → left (.int .i64 k) = (f k).isSome) → w.grownBy w' none → w'.heap.size = w.heap.size + 1 →
      wpList Try.prog ops Q rest (a.put o.dst (.pointer (some ⟨w.heap.size, 0, none⟩))) w') :
    wpList Try.prog ops Q (o :: rest) a w := by
  obtain ⟨D, h1, h2⟩ := h
  refine wpList_range_own w hg m t hop 3 e key_intV ht itself b n D hm h1 fun w' hr hgr hs => ?_
  refine hK w' _ ⟨D, ?_, h2⟩ (fun k hk => h2.has hk) hgr hs
  rw [hr.left_eq]
  exact hr
/-- The step. -/
theorem wpList_next_o (w : World) {ops : Array Oper} {rest : List Oper} {o : Oper} {a : Act} {Q : Exit → Act → World → Prop} (hg : o.guard = none) (it : Operand) (hop : o.op = Op.next it false)
    {b r n : Nat} {f : Int → Option Value} {left : Lit → Bool} {cnt : Nat} (hit : a.eval it = .pointer (some ⟨r, 0, none⟩)) (h : RangesO w b r n f left cnt)
    (hDone : cnt = 0 → (∀ kl, left kl = false) → wpList Try.prog ops Q rest (a.put o.dst (.tuple #[.bool false])) w)
    (hMore : ∀ (x : Int) (v : Value) (w' : World) (cnt' : Nat), (Lit.int .i64 x).wf = true → left (.int .i64 x) = true → f x = some v →
      RangesO w' b r n f (fun z => left z && !z.sameKey (.int .i64 x)) cnt' → cnt' < cnt → w.grownBy w' (some r) → w'.heap.size = w.heap.size →
      (Instr.entry (.pointer (some ⟨r, 0, none⟩))).run Try.prog w' = .ok (.tuple #[.int .i64 x, v]) w' → wpList Try.prog ops Q rest (a.put o.dst (.tuple #[.bool true, .int .i64 x, v])) w') :
    wpList Try.prog ops Q (o :: rest) a w := by
  obtain ⟨D, h1, h2⟩ := h
  refine wpList_next_ranges w hg it hop 3 key_intV itself (Value.int .i64) (fun v : Value => v) (fun key kl hkey => by obtain ⟨x, rfl, _⟩ := Maps.keyOf_int_inv Try.underlying3 hkey; exact ⟨x, rfl⟩)
    (fun v y hv => ⟨v, rfl⟩) b r n D left cnt hit h1 hDone (fun x c kl y w' cnt' hkey hlk hv hat hrg hlt hgr hsz hen => ?_)
  obtain ⟨x', ex, rfl, hwx⟩ := Maps.keyOf_int_inv Try.underlying3 hkey
  cases ex
  have hv' : y = (.held c, []) := by simp only [itself, Option.some.injEq] at hv; exact hv.symm
  subst hv'
  have e0 : f x = some c := by
    have e1 := hat .nil
    have e2 := hat (.held (.bool true))
    rw [h2.2 x hwx] at e1 e2
    cases e : f x with
    | none => rw [e] at e1; cases e1
    | some v => rw [e] at e1; simp only [DataW.held.injEq] at e1; rw [e1]
  exact hMore x c w' cnt' hwx hlk e0 ⟨D, hrg, h2⟩ hlt hgr hsz hen
end Go.Proofs.Ytdkjkcegchohfaa
