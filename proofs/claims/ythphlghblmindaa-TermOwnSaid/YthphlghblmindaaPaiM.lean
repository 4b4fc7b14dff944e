/-
  Signs that make one row of a terminal another: in plain words, and what they do.
-/
import Derived.Test.YthphlghblmindaaTermM
namespace Go.Proofs.Ythphlghblmindaa
open Go.RowKit
set_option linter.unusedVariables false
set_option linter.unusedSimpArgs false

/-- The signs of a way from one place to another. -/
def wayL (b : List Int) (x y : Nat) : List Int :=
  if x ≤ y then (b.drop x).take (y - x) else if x - y ≤ 1 + y then List.replicate (x - y) 8 else 13 :: b.take y
/-- Signs joined: the place, and what has come. -/
def toJ (b : List Int) (j : Nat × List Int) (k : Nat) : Nat × List Int := (k, j.2 ++ wayL b j.1 k)
def overJ (b : List Int) (j : Nat × List Int) (x y : Nat) : Nat × List Int := (y, (toJ b j x).2 ++ (b.drop x).take (y - x))
def eraseJ (b : List Int) (j : Nat × List Int) (k : Nat) : Nat × List Int := (k, (toJ b j k).2 ++ [11])

/-- The first place at which two rows are unlike. -/
def dUp (a b : List Int) (to : Nat) : Nat → Nat → Nat
  | 0, k => k
  | f + 1, k => if gI a k = gI b k then dUp a b to f (k + 1) else k
/-- Behind the last one. -/
def dDn (a b : List Int) (fr : Nat) : Nat → Nat → Nat
  | 0, k => k
  | f + 1, k => if gI a (k - 1) = gI b (k - 1) then dDn a b fr f (k - 1) else k
def difL (a b : List Int) (x y : Nat) : Nat := dUp a b y (y - x) x
def difH (a b : List Int) (x y : Nat) : Nat := dDn a b (difL a b x y) (y - difL a b x y) y
theorem dUp_spec (a b : List Int) (to : Nat) : ∀ (f k : Nat), k ≤ dUp a b to f k ∧ dUp a b to f k ≤ k + f ∧ (∀ i, k ≤ i → i < dUp a b to f k → gI a i = gI b i) ∧ (dUp a b to f k < k + f → gI a (dUp a b to f k) ≠ gI b (dUp a b to f k))
  | 0, k => ⟨Nat.le_refl _, Nat.le_refl _, fun i h1 h2 => by simp only [dUp] at h2; omega, fun h => by simp [dUp] at h⟩
  | f + 1, k => by
    unfold dUp
    split
    · rename_i h
      obtain ⟨h1, h2, h3, h4⟩ := dUp_spec a b to f (k + 1)
      refine ⟨by omega, by omega, fun i hi hl => ?_, fun hl => h4 (by omega)⟩
      rcases Nat.eq_or_lt_of_le hi with rfl | hlt
      · exact h
      · exact h3 i hlt hl
    · rename_i h
      exact ⟨Nat.le_refl _, by omega, fun i h1 h2 => by omega, fun _ => h⟩
theorem dDn_spec (a b : List Int) (fr : Nat) : ∀ (f k : Nat), f ≤ k → dDn a b fr f k ≤ k ∧ k - f ≤ dDn a b fr f k ∧ (∀ i, dDn a b fr f k ≤ i → i < k → gI a i = gI b i) ∧ (k - f < dDn a b fr f k → gI a (dDn a b fr f k - 1) ≠ gI b (dDn a b fr f k - 1))
  | 0, k, _ => ⟨Nat.le_refl _, by simp [dDn], fun i h1 h2 => by simp only [dDn] at h1; omega, fun h => by simp [dDn] at h⟩
  | f + 1, k, hk => by
    unfold dDn
    split
    · rename_i h
      obtain ⟨h1, h2, h3, h4⟩ := dDn_spec a b fr f (k - 1) (by omega)
      refine ⟨by omega, by omega, fun i hi hl => ?_, fun hl => h4 (by omega)⟩
      rcases Nat.lt_or_ge i (k - 1) with hlt | hge
      · exact h3 i hi hlt
      · rw [show i = k - 1 by omega]; exact h
    · rename_i h
      exact ⟨Nat.le_refl _, by omega, fun i h1 h2 => by omega, fun _ => h⟩
theorem dif_spec (a b : List Int) {x y : Nat} (h : x ≤ y) : x ≤ difL a b x y ∧ difL a b x y ≤ difH a b x y ∧ difH a b x y ≤ y ∧ (∀ i, x ≤ i → i < difL a b x y → gI a i = gI b i) ∧ (∀ i, difH a b x y ≤ i → i < y → gI a i = gI b i) := by
  obtain ⟨h1, h2, h3, h4⟩ := dUp_spec a b y (y - x) x
  obtain ⟨k1, k2, k3, _⟩ := dDn_spec a b (difL a b x y) (y - difL a b x y) y (by omega)
  have e1 : difL a b x y = dUp a b y (y - x) x := rfl
  have e2 : difH a b x y = dDn a b (difL a b x y) (y - difL a b x y) y := rfl
  rw [← e1] at h1 h2 h3
  rw [← e2] at k1 k2 k3
  exact ⟨h1, by omega, k1, h3, k3⟩

theorem difH_last (a b : List Int) {x y : Nat} (h : x ≤ y) (hlt : difL a b x y < difH a b x y) : gI a (difH a b x y - 1) ≠ gI b (difH a b x y - 1) := by
  obtain ⟨h1, h2, h3, h4⟩ := dUp_spec a b y (y - x) x
  have e1 : difL a b x y = dUp a b y (y - x) x := rfl
  exact (dDn_spec a b (difL a b x y) (y - difL a b x y) y (by omega)).2.2.2 (by
    have e2 : difH a b x y = dDn a b (difL a b x y) (y - difL a b x y) y := rfl
    omega)
/-- Behind the last cell that is not blank. -/
def fulF (b : List Int) : Nat → Nat
  | 0 => 0
  | n + 1 => if gI b n = 32 then fulF b n else n + 1
theorem ful_spec (b : List Int) : ∀ n, fulF b n ≤ n ∧ ∀ i, fulF b n ≤ i → i < n → gI b i = 32
  | 0 => ⟨Nat.le_refl _, fun i _ h => absurd h (by omega)⟩
  | n + 1 => by
    unfold fulF
    split
    · rename_i h
      obtain ⟨h1, h2⟩ := ful_spec b n
      refine ⟨by omega, fun i hi hl => ?_⟩
      rcases Nat.lt_or_ge i n with hlt | hge
      · exact h2 i hi hlt
      · rw [show i = n by omega]; exact h
    · exact ⟨Nat.le_refl _, fun i h1 h2 => by omega⟩

/-- The ways that an erasing at p makes. -/
def way0 (b : List Int) (st at_ p : Nat) : List Int := (toJ b (eraseJ b (st, []) p) at_).2
def way1 (b : List Int) (st at_ p lo hi : Nat) : List Int := (toJ b (eraseJ b (overJ b (st, []) lo hi) p) at_).2
def way2 (b : List Int) (st at_ p lo hi : Nat) : List Int := (toJ b (overJ b (eraseJ b (st, []) p) lo hi) at_).2
def ways (b : List Int) (st at_ p lo hi : Nat) : List (List Int) := if lo < hi then [way1 b st at_ p lo hi, way2 b st at_ p lo hi] else [way0 b st at_ p]
def better (x w : List Int) : List Int := if w.length < x.length then w else x
def bestOf (best : List Int) (ws : List (List Int)) : List Int := ws.foldl better best
def bestP (b : List Int) (st at_ lo hi : Nat) : Nat → Nat → List Int → List Int
  | 0, _, best => best
  | f + 1, p, best => bestP b st at_ lo hi f (p + 1) (bestOf best (ways b st at_ p lo hi))
/-- All signs. -/
def signsF (a : List Int) (st : Nat) (b : List Int) (at_ : Nat) : List Int :=
  let n := b.length
  let x := difL a b 0 n
  let y := difH a b 0 n
  if x < y then
    let best := (toJ b (overJ b (st, []) x y) at_).2
    let full := fulF b n
    let fi := difL a b full n
    if fi < difH a b full n then bestP b st at_ (difL a b 0 full) (difH a b 0 full) (fi + 1 - full) full best else best
  else (toJ b (st, []) at_).2

theorem better_or (x w : List Int) : better x w = x ∨ better x w = w := by unfold better; split <;> simp
theorem better_le (x w : List Int) : (better x w).length ≤ x.length ∧ (better x w).length ≤ w.length := by unfold better; split <;> omega
theorem bestOf_all {Q : List Int → Prop} : ∀ (ws : List (List Int)) (x : List Int), Q x → (∀ w ∈ ws, Q w) → Q (bestOf x ws)
  | [], x, h, _ => h
  | w :: ws, x, h, h2 => bestOf_all ws (better x w) (by rcases better_or x w with e | e <;> rw [e]; exact h; exact h2 w (by simp)) (fun v hv => h2 v (by simp [hv]))
theorem bestOf_le : ∀ (ws : List (List Int)) (x : List Int), (bestOf x ws).length ≤ x.length ∧ ∀ w ∈ ws, (bestOf x ws).length ≤ w.length
  | [], x => ⟨Nat.le_refl _, fun w h => by cases h⟩
  | v :: ws, x => by
    obtain ⟨h1, h2⟩ := bestOf_le ws (better x v)
    have h3 := better_le x v
    have e : bestOf x (v :: ws) = bestOf (better x v) ws := rfl
    rw [e]
    refine ⟨by omega, fun w hw => ?_⟩
    rcases List.mem_cons.1 hw with rfl | hw
    · omega
    · exact h2 w hw
theorem bestP_all {Q : List Int → Prop} {b : List Int} {st at_ lo hi : Nat} : ∀ (f p : Nat) (x : List Int), Q x → (∀ q, p ≤ q → q < p + f → ∀ w ∈ ways b st at_ q lo hi, Q w) → Q (bestP b st at_ lo hi f p x)
  | 0, p, x, h, _ => h
  | f + 1, p, x, h, h2 => bestP_all f (p + 1) _ (bestOf_all _ _ h (h2 p (Nat.le_refl _) (by omega))) (fun q h3 h4 => h2 q (by omega) (by omega))
theorem bestP_le {b : List Int} {st at_ lo hi : Nat} : ∀ (f p : Nat) (x : List Int), (bestP b st at_ lo hi f p x).length ≤ x.length
  | 0, p, x => Nat.le_refl _
  | f + 1, p, x => Nat.le_trans (bestP_le f (p + 1) _) (bestOf_le _ _).1
theorem bestP_first {b : List Int} {st at_ lo hi : Nat} (f p : Nat) (x : List Int) {w : List Int} (hw : w ∈ ways b st at_ p lo hi) : (bestP b st at_ lo hi (f + 1) p x).length ≤ w.length :=
  Nat.le_trans (bestP_le f (p + 1) _) ((bestOf_le _ _).2 w hw)

/-! What the signs do. -/
/-- The row is as b at place i. -/
def likeAt (b : List Int) (r : List Int × Nat) (i : Nat) : Prop := gI r.1 i = gI b i
/-- From r to r' each place that was as b is is so still, and those within x..y are so. -/
def Goes (b : List Int) (r r' : List Int × Nat) (x y : Nat) : Prop := r'.1.length = r.1.length ∧ ∀ i, i < b.length → (gI r.1 i = gI b i ∨ x ≤ i ∧ i < y) → gI r'.1 i = gI b i
theorem Goes.refl (b : List Int) (r : List Int × Nat) : Goes b r r 0 0 := ⟨rfl, fun i _ h => by rcases h with h | h; exact h; omega⟩
theorem Goes.like {b : List Int} {r r' : List Int × Nat} {x y : Nat} (h : Goes b r r' x y) : ∀ i, i < b.length → gI r.1 i = gI b i → gI r'.1 i = gI b i := fun i hi hl => h.2 i hi (.inl hl)
theorem Goes.less {b : List Int} {r r' : List Int × Nat} {x y x' y' : Nat} (h : Goes b r r' x y) (hh : ∀ i, x' ≤ i → i < y' → x ≤ i ∧ i < y) : Goes b r r' x' y' := ⟨h.1, fun i hi hl => h.2 i hi (hl.imp id (fun k => hh i k.1 k.2))⟩

/-- All of b's cells are characters. -/
def okB (b : List Int) : Prop := ∀ k, k < b.length → goodC (gI b k)
theorem goodC_ne {c : Int} (h : goodC c) : 32 ≤ c ∧ c ≠ 127 := h
theorem stepR_put {cs : List Int} {p : Nat} {c : Int} (h : goodC c) (hp : p < cs.length) : stepR (cs, p) c = (cs.set p c, p + 1) := by
  obtain ⟨h1, h2⟩ := goodC_ne h
  unfold stepR
  rw [if_neg (by omega), if_neg (by omega), if_neg (by omega), if_pos ⟨h1, h2, hp⟩]

/-- Cells of b are written where they belong. -/
theorem show_cells {b : List Int} (hb : okB b) : ∀ (m x : Nat) (cs : List Int), cs.length = b.length → x + m ≤ b.length →
    (showR (cs, x) ((b.drop x).take m)).2 = x + m ∧ Goes b (cs, x) (showR (cs, x) ((b.drop x).take m)) x (x + m)
  | 0, x, cs, hc, hm => by
    simp only [List.take_zero, showR, List.foldl_nil]
    exact ⟨rfl, (Goes.refl b _).less (fun i h1 h2 => by omega)⟩
  | m + 1, x, cs, hc, hm => by
    have hx : x < b.length := by omega
    have e : (b.drop x).take (m + 1) = gI b x :: (b.drop (x + 1)).take m := by
      rw [List.drop_eq_getElem_cons hx, List.take_succ_cons]
      simp [gI, hx]
    have e2 : showR (cs, x) ((b.drop x).take (m + 1)) = showR (cs.set x (gI b x), x + 1) ((b.drop (x + 1)).take m) := by
      rw [e]
      show showR (stepR (cs, x) (gI b x)) _ = _
      rw [stepR_put (hb x hx) (by omega)]
    obtain ⟨h1, h2⟩ := show_cells hb m (x + 1) (cs.set x (gI b x)) (by simpa using hc) (by omega)
    rw [e2]
    refine ⟨by omega, h2.1.trans (by simp), fun i hi hl => ?_⟩
    apply h2.2 i hi
    simp only
    rw [gI_set (by omega)]
    by_cases hix : i = x
    · left; rw [if_pos hix, hix]
    · rw [if_neg hix]
      rcases hl with hl | hl
      · exact .inl hl
      · exact .inr (by omega)
theorem show_back (cs : List Int) : ∀ (m x : Nat), m ≤ x → showR (cs, x) (List.replicate m 8) = (cs, x - m)
  | 0, x, _ => rfl
  | m + 1, x, h => by
    rw [List.replicate_succ]
    show showR (stepR (cs, x) 8) _ = _
    have : stepR (cs, x) 8 = (cs, x - 1) := rfl
    rw [this, show_back cs m (x - 1) (by omega), show x - 1 - m = x - (m + 1) by omega]
/-- A way leads where it should. -/
theorem show_way {b : List Int} (hb : okB b) {x y : Nat} {cs : List Int} (hc : cs.length = b.length) (hx : x ≤ b.length) (hy : y ≤ b.length) :
    (showR (cs, x) (wayL b x y)).2 = y ∧ Goes b (cs, x) (showR (cs, x) (wayL b x y)) x y := by
  unfold wayL
  split
  · rename_i h
    have := show_cells hb (y - x) x cs hc (by omega)
    rw [show x + (y - x) = y by omega] at this
    exact this
  · rename_i h
    split
    · rw [show_back cs _ _ (by omega)]
      exact ⟨by simp only; omega, ⟨rfl, fun i _ hl => by rcases hl with hl | hl; exact hl; omega⟩⟩
    · have e : showR (cs, x) (13 :: b.take y) = showR (cs, 0) ((b.drop 0).take y) := rfl
      rw [e]
      have := show_cells hb y 0 cs hc (by omega)
      rw [Nat.zero_add] at this
      refine ⟨this.1, this.2.1, fun i hi hl => this.2.2 i hi (hl.imp id (fun k => by omega))⟩

/-- What signs have come lead from r to a row at this place. -/
def Led (b : List Int) (r : List Int × Nat) (j : Nat × List Int) (x y : Nat) : Prop := (showR r j.2).2 = j.1 ∧ Goes b r (showR r j.2) x y ∧ j.1 ≤ b.length
theorem Led.start (b : List Int) (r : List Int × Nat) (h : r.2 ≤ b.length) : Led b r (r.2, []) 0 0 := ⟨rfl, Goes.refl b r, h⟩
theorem pair_eta (r : List Int × Nat) {p : Nat} (h : r.2 = p) : r = (r.1, p) := by rw [← h]
theorem Led.to_ {b : List Int} (hb : okB b) {r : List Int × Nat} (hr : r.1.length = b.length) {j : Nat × List Int} {x y k : Nat} (h : Led b r j x y) (hk : k ≤ b.length) : Led b r (toJ b j k) x y ∧ (j.1 ≤ k → ∀ i, j.1 ≤ i → i < k → gI (showR r (toJ b j k).2).1 i = gI b i) := by
  obtain ⟨h1, h2, h3⟩ := h
  have e : showR r (toJ b j k).2 = showR ((showR r j.2).1, j.1) (wayL b j.1 k) := by
    show showR r (j.2 ++ wayL b j.1 k) = _
    rw [show_app, ← pair_eta _ h1]
  obtain ⟨k1, k2⟩ := show_way hb (x := j.1) (y := k) (cs := (showR r j.2).1) (by rw [h2.1, hr]) h3 hk
  rw [← e] at k1 k2
  refine ⟨⟨k1, ⟨k2.1.trans h2.1, fun i hi hl => k2.2 i hi (.inl (h2.2 i hi hl))⟩, hk⟩, fun _ i h4 h5 => k2.2 i (by omega) (.inr ⟨h4, h5⟩)⟩
theorem Led.over {b : List Int} (hb : okB b) {r : List Int × Nat} (hr : r.1.length = b.length) {j : Nat × List Int} {x y u v : Nat} (h : Led b r j x y) (huv : u ≤ v) (hv : v ≤ b.length) :
    Led b r (overJ b j u v) x y ∧ Led b r (overJ b j u v) u v := by
  obtain ⟨⟨h1, h2, h3⟩, _⟩ := h.to_ hb hr (k := u) (by omega)
  have e : showR r (overJ b j u v).2 = showR ((showR r (toJ b j u).2).1, u) ((b.drop u).take (v - u)) := by
    show showR r ((toJ b j u).2 ++ (b.drop u).take (v - u)) = _
    rw [show_app]
    rw [← pair_eta _ (show (showR r (toJ b j u).2).2 = u from h1)]
  obtain ⟨k1, k2⟩ := show_cells hb (v - u) u (showR r (toJ b j u).2).1 (by rw [h2.1, hr]) (by omega)
  rw [← e, show u + (v - u) = v by omega] at k1 k2
  exact ⟨⟨k1, ⟨k2.1.trans h2.1, fun i hi hl => k2.2 i hi (.inl (h2.2 i hi hl))⟩, hv⟩, ⟨k1, ⟨k2.1.trans h2.1, fun i hi hl => by
    rcases hl with hl | hl
    · exact k2.2 i hi (.inl (h2.2 i hi (.inl hl)))
    · exact k2.2 i hi (.inr hl)⟩, hv⟩⟩
theorem Led.erase {b : List Int} (hb : okB b) {r : List Int × Nat} (hr : r.1.length = b.length) {j : Nat × List Int} {x y k : Nat} (h : Led b r j x y) (hk : k ≤ b.length) (hbl : ∀ i, k ≤ i → i < b.length → gI b i = 32) :
    Led b r (eraseJ b j k) x y ∧ Led b r (eraseJ b j k) k b.length := by
  obtain ⟨⟨h1, h2, h3⟩, _⟩ := h.to_ hb hr (k := k) hk
  have e : showR r (eraseJ b j k).2 = stepR (showR r (toJ b j k).2) 11 := by
    show showR r ((toJ b j k).2 ++ [11]) = _
    rw [show_app]; rfl
  have h1 : (showR r (toJ b j k).2).2 = k := h1
  have hl1 : (showR r (toJ b j k).2).1.length = b.length := by rw [h2.1, hr]
  have e2 : stepR (showR r (toJ b j k).2) 11 = ((showR r (toJ b j k).2).1.take k ++ List.replicate (b.length - k) 32, k) := by
    rw [pair_eta _ h1]
    show ((showR r (toJ b j k).2).1.take k ++ List.replicate ((showR r (toJ b j k).2).1.length - k) 32, k) = _
    rw [hl1]
  have key : ∀ i, i < b.length → gI (showR r (eraseJ b j k).2).1 i = if i < k then gI (showR r (toJ b j k).2).1 i else 32 := fun i hi => by
    rw [e, e2]
    unfold gI
    simp only
    split
    · rename_i hik
      rw [List.getElem?_append_left (by rw [List.length_take]; omega), List.getElem?_take, if_pos hik]
    · rename_i hik
      rw [List.getElem?_append_right (by rw [List.length_take]; omega), List.getElem?_replicate, if_pos (by rw [List.length_take]; omega)]
      rfl
  have hlen : (showR r (eraseJ b j k).2).1.length = r.1.length := by
    rw [e, e2, hr]
    simp only [List.length_append, List.length_take, List.length_replicate]
    omega
  have h2' : (showR r (eraseJ b j k).2).2 = k := by rw [e, e2]
  refine ⟨⟨h2', ⟨hlen, fun i hi hl => ?_⟩, hk⟩, ⟨h2', ⟨hlen, fun i hi hl => ?_⟩, hk⟩⟩
  · rw [key i hi]
    split
    · exact h2.2 i hi hl
    · rename_i hik; exact (hbl i (by omega) hi).symm
  · rw [key i hi]
    split
    · rename_i hik
      rcases hl with hl | hl
      · exact h2.2 i hi (.inl hl)
      · omega
    · rename_i hik; exact (hbl i (by omega) hi).symm
/-- Where all is alike, the row is b. -/
theorem all_like {b c : List Int} (hc : c.length = b.length) (h : ∀ i, i < b.length → gI c i = gI b i) : c = b := by
  apply List.ext_getElem? 
  intro i
  rcases Nat.lt_or_ge i b.length with hi | hi
  · have := h i hi
    unfold gI at this
    rw [List.getElem?_eq_getElem hi, List.getElem?_eq_getElem (by omega)] at this ⊢
    simpa using this
  · rw [List.getElem?_eq_none hi, List.getElem?_eq_none (by omega)]

theorem way_nil {b : List Int} {x y : Nat} (hx : x ≤ b.length) (hy : y ≤ b.length) : (wayL b x y = []) ↔ x = y := by
  unfold wayL
  constructor
  · intro h
    split at h
    · have := congrArg List.length h
      simp at this
      omega
    · split at h
      · have := congrArg List.length h
        simp at this
        omega
      · cases h
  · rintro rfl
    simp
/-- How long a way is. -/
def wayN (x y : Nat) : Nat := if x ≤ y then y - x else min (x - y) (1 + y)
theorem way_len {b : List Int} {x y : Nat} (hx : x ≤ b.length) (hy : y ≤ b.length) : (wayL b x y).length = wayN x y := by
  unfold wayL wayN
  split
  · simp; omega
  · split
    · rw [List.length_replicate]; omega
    · rw [List.length_cons, List.length_take]; omega

/-- THE SIGNS MAKE THE ROW, are few, and none just if the rows are one. -/
theorem signs_law {a b : List Int} {st at_ : Nat} (hl : a.length = b.length) (hb : okB b) (hst : st ≤ b.length) (hat : at_ ≤ b.length) :
    showR (a, st) (signsF a st b at_) = (b, at_) ∧ (signsF a st b at_).length ≤ 2 + fulF b b.length + wayN (fulF b b.length) at_ ∧ (signsF a st b at_ = [] ↔ a = b ∧ st = at_) := by
  obtain ⟨d1, d2, d3, d4, d5⟩ := dif_spec a b (Nat.zero_le b.length)
  obtain ⟨f1, f2⟩ := ful_spec b b.length
  have S0 := Led.start b (a, st) hst
  have hr : ((a, st) : List Int × Nat).1.length = b.length := hl
  have fin : ∀ {j : Nat × List Int}, Led b (a, st) j 0 0 → (∀ i, i < b.length → gI (showR (a, st) j.2).1 i = gI b i) → showR (a, st) (toJ b j at_).2 = (b, at_) := fun {j} hj hall => by
    obtain ⟨h1, _⟩ := hj.to_ hb hr (k := at_) hat
    obtain ⟨k1, k2⟩ := hj.to_ hb hr (k := at_) hat
    have e : showR (a, st) (toJ b j at_).2 = showR ((showR (a, st) j.2).1, j.1) (wayL b j.1 at_) := by
      show showR (a, st) (j.2 ++ wayL b j.1 at_) = _
      rw [show_app, ← pair_eta _ hj.1]
    obtain ⟨q1, q2⟩ := show_way hb (x := j.1) (y := at_) (cs := (showR (a, st) j.2).1) (by rw [hj.2.1.1, hr]) hj.2.2 hat
    rw [← e] at q1 q2
    have : (showR (a, st) (toJ b j at_).2).1 = b := all_like (by rw [q2.1]; exact hj.2.1.1.trans hr) (fun i hi => q2.2 i hi (.inl (hall i hi)))
    rw [pair_eta _ q1, this]
  unfold signsF
  simp only
  split
  · rename_i hxy
    have hne : a ≠ b := by
      rintro rfl
      obtain ⟨g1, g2, g3, g4⟩ := dUp_spec a a a.length (a.length - 0) 0
      exact g4 (by
        have : difL a a 0 a.length = dUp a a a.length (a.length - 0) 0 := rfl
        omega) rfl
    have hlast := difH_last a b (Nat.zero_le b.length) hxy
    generalize difL a b 0 b.length = x at *
    generalize difH a b 0 b.length = y at *
    -- the plain way
    have O := S0.over hb hr (u := x) (v := y) (by omega) d3
    have O2 : Led b (a, st) (overJ b (st, []) x y) 0 0 := O.1
    have A1 : showR (a, st) (toJ b (overJ b (st, []) x y) at_).2 = (b, at_) := fin O2 (fun i hi => by
      rcases Nat.lt_or_ge i x with h1 | h1
      · exact O.2.2.1.2 i hi (.inl (d4 i (Nat.zero_le _) h1))
      · rcases Nat.lt_or_ge i y with h2 | h2
        · exact O.2.2.1.2 i hi (.inr ⟨h1, h2⟩)
        · exact O.2.2.1.2 i hi (.inl (d5 i h2 hi)))
    have L1 : (toJ b (overJ b (st, []) x y) at_).2.length = wayN st x + (y - x) + wayN y at_ := by
      show ((([] ++ wayL b st x) ++ (b.drop x).take (y - x)) ++ wayL b y at_).length = _
      rw [List.length_append, List.length_append, List.length_append, way_len hst (by omega), way_len d3 hat, List.length_take, List.length_drop, List.length_nil]
      omega
    split
    · rename_i htl
      obtain ⟨t1, t2, t3, t4, t5⟩ := dif_spec a b f1
      obtain ⟨m1, m2, m3, m4, m5⟩ := dif_spec a b (Nat.zero_le (fulF b b.length))
      have m0 : ¬ difL a b 0 (fulF b b.length) < difH a b 0 (fulF b b.length) → ∀ i, i < fulF b b.length → gI a i = gI b i := fun h i hi => by
        rcases Nat.lt_or_ge i (difL a b 0 (fulF b b.length)) with h1 | h1
        · exact m4 i (Nat.zero_le _) h1
        · exact m5 i (by omega) hi
      generalize hfull : fulF b b.length = full at *
      generalize difL a b full b.length = fi at *
      generalize difH a b full b.length = fh at *
      generalize difL a b 0 full = lo at *
      generalize difH a b 0 full = hi at *
      have hbl : ∀ p, full ≤ p → ∀ i, p ≤ i → i < b.length → gI b i = 32 := fun p hp i h1 h2 => f2 i (by omega) h2
      have Q : ∀ p, full ≤ p → p < full + (fi + 1 - full) → ∀ w ∈ ways b st at_ p lo hi, showR (a, st) w = (b, at_) ∧ w ≠ [] := fun p hp hp2 w hw => by
        have hpn : p ≤ b.length := by omega
        unfold ways at hw
        split at hw
        · rename_i hlh
          simp only [List.mem_cons, List.not_mem_nil, or_false] at hw
          rcases hw with rfl | rfl
          · have P1 := S0.over hb hr (u := lo) (v := hi) (by omega) (by omega)
            have P2 := P1.2.erase hb hr (k := p) hpn (hbl p hp)
            refine ⟨fin (P1.1.erase hb hr (k := p) hpn (hbl p hp)).1 (fun i hi' => ?_), fun e => ?_⟩
            · rcases Nat.lt_or_ge i p with h1 | h1
              · rcases Nat.lt_or_ge i lo with h2 | h2
                · exact P2.1.2.1.2 i hi' (.inl (m4 i (Nat.zero_le _) h2))
                · rcases Nat.lt_or_ge i hi with h3 | h3
                  · exact P2.1.2.1.2 i hi' (.inr ⟨h2, h3⟩)
                  · rcases Nat.lt_or_ge i full with h4 | h4
                    · exact P2.1.2.1.2 i hi' (.inl (m5 i h3 h4))
                    · exact P2.1.2.1.2 i hi' (.inl (t4 i h4 (by omega)))
              · exact P2.2.2.1.2 i hi' (.inr ⟨h1, hi'⟩)
            · have := congrArg List.length e
              unfold way1 toJ eraseJ at this
              simp at this
          · have P1 := S0.erase hb hr (k := p) hpn (hbl p hp)
            have P2 := P1.1.over hb hr (u := lo) (v := hi) (by omega) (by omega)
            have P3 := P1.2.over hb hr (u := lo) (v := hi) (by omega) (by omega)
            refine ⟨fin P2.1 (fun i hi' => ?_), fun e => ?_⟩
            · rcases Nat.lt_or_ge i p with h1 | h1
              · rcases Nat.lt_or_ge i lo with h2 | h2
                · exact P2.1.2.1.2 i hi' (.inl (m4 i (Nat.zero_le _) h2))
                · rcases Nat.lt_or_ge i hi with h3 | h3
                  · exact P2.2.2.1.2 i hi' (.inr ⟨h2, h3⟩)
                  · rcases Nat.lt_or_ge i full with h4 | h4
                    · exact P2.1.2.1.2 i hi' (.inl (m5 i h3 h4))
                    · exact P2.1.2.1.2 i hi' (.inl (t4 i h4 (by omega)))
              · exact P3.1.2.1.2 i hi' (.inr ⟨h1, hi'⟩)
            · have := congrArg List.length e
              unfold way2 toJ overJ toJ eraseJ at this
              simp at this
        · rename_i hlh
          simp only [List.mem_cons, List.not_mem_nil, or_false] at hw
          subst hw
          have P1 := S0.erase hb hr (k := p) hpn (hbl p hp)
          refine ⟨fin P1.1 (fun i hi' => ?_), fun e => ?_⟩
          · rcases Nat.lt_or_ge i p with h1 | h1
            · rcases Nat.lt_or_ge i full with h4 | h4
              · exact P1.1.2.1.2 i hi' (.inl (m0 hlh i h4))
              · exact P1.1.2.1.2 i hi' (.inl (t4 i h4 (by omega)))
            · exact P1.2.2.1.2 i hi' (.inr ⟨h1, hi'⟩)
          · have := congrArg List.length e
            unfold way0 toJ eraseJ at this
            simp at this
      have BB : showR (a, st) (bestP b st at_ lo hi (fi + 1 - full) full (toJ b (overJ b (st, []) x y) at_).2) = (b, at_) ∧ bestP b st at_ lo hi (fi + 1 - full) full (toJ b (overJ b (st, []) x y) at_).2 ≠ [] :=
        bestP_all (Q := fun w => showR (a, st) w = (b, at_) ∧ w ≠ []) _ _ _ ⟨A1, fun e => by
          have := congrArg List.length e
          rw [L1] at this
          simp at this
          omega⟩ Q
      refine ⟨BB.1, ?_, ⟨fun h => absurd h BB.2, fun h => absurd h.1 hne⟩⟩
      obtain ⟨f, hf⟩ : ∃ f, fi + 1 - full = f + 1 := ⟨fi - full, by omega⟩
      rw [hf]
      have U0 : (way0 b st at_ full).length = wayN st full + 1 + wayN full at_ := by
        show ((([] ++ wayL b st full) ++ [11]) ++ wayL b full at_).length = _
        rw [List.length_append, List.length_append, List.length_append, way_len hst f1, way_len f1 hat]
        simp
      by_cases hlh : lo < hi
      · have hmem : way1 b st at_ full lo hi ∈ ways b st at_ full lo hi := by unfold ways; rw [if_pos hlh]; simp
        refine Nat.le_trans (bestP_first f full _ hmem) ?_
        have : (way1 b st at_ full lo hi).length = wayN st lo + (hi - lo) + wayN hi full + 1 + wayN full at_ := by
          show ((((([] ++ wayL b st lo) ++ (b.drop lo).take (hi - lo)) ++ wayL b hi full) ++ [11]) ++ wayL b full at_).length = _
          simp only [List.length_append, List.length_take, List.length_drop, List.length_nil, List.length_cons]
          rw [way_len hst (by omega), way_len (by omega) (by omega), way_len (by omega) hat]
          omega
        rw [this]
        have q1 : wayN st lo ≤ 1 + lo := by unfold wayN; split <;> omega
        have q2 : wayN hi full = full - hi := by unfold wayN; rw [if_pos m3]
        omega
      · have hmem : way0 b st at_ full ∈ ways b st at_ full lo hi := by unfold ways; rw [if_neg hlh]; simp
        refine Nat.le_trans (bestP_first f full _ hmem) ?_
        rw [U0]
        have q1 : wayN st full ≤ 1 + full := by unfold wayN; split <;> omega
        omega
    · rename_i htl
      refine ⟨A1, ?_, ⟨fun h => ?_, fun h => absurd h.1 hne⟩⟩
      · rw [L1]
        obtain ⟨t1, t2, t3, t4, t5⟩ := dif_spec a b f1
        have hyf : y ≤ fulF b b.length := by
          rcases Nat.lt_or_ge (fulF b b.length) y with h | h
          · exact absurd (by
              rcases Nat.lt_or_ge (y - 1) (difL a b (fulF b b.length) b.length) with h5 | h5
              · exact t4 _ (by omega) h5
              · exact t5 _ (by omega) (by omega)) hlast
          · exact h
        have q1 : wayN st x ≤ 1 + x := by unfold wayN; split <;> omega
        have q2 : wayN y at_ ≤ (fulF b b.length - y) + wayN (fulF b b.length) at_ := by
          unfold wayN
          split <;> split <;> omega
        omega
      · have := congrArg List.length h
        rw [L1] at this
        simp at this
        omega
  · rename_i hxy
    have hab : ∀ i, i < b.length → gI a i = gI b i := fun i hi => by
      rcases Nat.lt_or_ge i (difL a b 0 b.length) with h1 | h1
      · exact d4 i (Nat.zero_le _) h1
      · exact d5 i (by omega) hi
    have e := all_like hl hab
    refine ⟨fin S0 (fun i hi => hab i hi), ?_, ?_⟩
    · show ([] ++ wayL b st at_).length ≤ _
      rw [List.nil_append, way_len hst hat]
      unfold wayN
      split <;> split <;> omega
    · show [] ++ wayL b st at_ = [] ↔ _
      rw [List.nil_append, way_nil hst hat]
      exact ⟨fun h => ⟨e, h⟩, fun h => h.2⟩
end Go.Proofs.Ythphlghblmindaa
